/- flow.far, near by a call, back. -/
import Derived.Test.YtcglkefaopgjeaaGreatDoorE6
import Derived.Test.YtcglkefaopgjeaaGreatDoorD6
namespace Go.Proofs.YtcglkefaopgjeaaGreatDoor
set_option linter.unusedSimpArgs false
set_option linter.unusedVariables false
open Go.RowKit

def Mach.far (m : Mach) (off : Int) (seg : V) : Mach := m.setR ({ m.r with ip := off }.putSeg 1 seg)
theorem Regs.ip_wf {r : Regs} (h : r.wf) {x : Int} (h0 : 0 ≤ x) (h1 : x ≤ 65535) : ({ r with ip := x } : Regs).wf := { h with ip := ⟨h0, h1⟩ }

set_option maxRecDepth 100000 in
set_option maxHeartbeats 1600000 in
theorem far_any (w : World) (C : Phys) (lv : Value) (m : Mach) (h : Own w C lv m) (off : Int) (seg : V) (h0 : 0 ≤ off) (h1 : off ≤ 65535) (hs : seg.wf) :
    Calls Tryz.prog 121 #[.pointer (some ⟨C.b, 0, none⟩), .int .u16 off, seg.val] w fun e w' => e = .returned (.tuple #[]) ∧ After C lv w (m.far off seg) w' := by
  have hwf := h.wf.r
  have hx := Box.new (h.setIP off h0 h1) #[.int .u16 seg.v, .bool seg.t] 24
  rw [World.size_setCell] at hx
  have HX0 := Lib.hid hx
  have HO0 := Lib.hid ((h.setIP off h0 h1).alloc (.cells #[.int .u16 seg.v, .bool seg.t] 24))
  have HA0 := Lib.hid (((Acc.refl C lv w).setB 24 (.int .u16 off)).alloc (.cells #[.int .u16 seg.v, .bool seg.t] 24))
  have HWF := Lib.hid (Regs.putSeg1_wf (Regs.ip_wf hwf h0 h1) hs)
  have hh := Lib.hid h; have sc := hh.out.sees.c; have sf := hh.out.sees.f; have sr := hh.out.sees.r; have ss := hh.out.sees.s; have sl := hh.out.sees.l; clear h hh hx hwf
  go_enter Tryz.func121, Tryz.ntmps121
  go_upto_region 2 with fail
  clear sc sf sr ss sl
  generalize (w.setCell ⟨C.b, 24, none⟩ (.int .u16 off)).alloc (.cells #[.int .u16 seg.v, .bool seg.t] 24) = W0 at *
  have HS := Lib.hid (show m.far off seg = ({ m with r := { m.r with ip := off } } : Mach).setR ({ m.r with ip := off }.putSeg 1 seg) from rfl)
  have hr : ({ m with r := { m.r with ip := off } } : Mach).r = { m.r with ip := off } := rfl
  generalize ({ m.r with ip := off } : Regs) = r1 at *
  generalize ({ m with r := r1 } : Mach) = m1 at HO0 HS hr
  subst hr
  have sc := HO0.out.sees.c; have sf := HO0.out.sees.f; have sr := HO0.out.sees.r; have ss := HO0.out.sees.s; have sl := HO0.out.sees.l
  have xc := HX0.out.row.cell
  clear sc sf
  have x0 : W0.cell? ⟨w.heap.size, 0, none⟩ = some (.int .u16 seg.v) := HX0.out.row.cell 0
  have x1 : W0.cell? ⟨w.heap.size, 1, none⟩ = some (.bool seg.t) := HX0.out.row.cell 1
  refine range_of (W0) ?_; intro S inst ω hin hout
  have r1 := range_regs hin sr
  have r2 := range_cell hin x0
  have r3 := range_cell hin x1
  have k1 := range_call hin hout (putSeg_any m1.r 1 seg)
  clear sr ss sl xc x0 x1
  refine wp_region_tail_range ω 9 (by kernel_rfl) (by kernel_rfl) (hout _ (Below.refl _ _).drew) ?_; simp only [List.take_succ_cons, List.take_zero, List.drop_succ_cons, List.drop_zero]
  repeat (go_big_quiet_step ((with_reducible exact k1 _)))
  refine wpQuiet_nil ?_; intro _ hw'; obtain ⟨nq, rfl⟩ := hw'
  have HO1 := Lib.hid (HO0.out.below (hin nq))
  have HA1 := Lib.hid (HA0.out.below (hin nq))
  clear r1 r2 r3 k1
  generalize ω nq = w1 at HO1 HA1
  have sc := HO1.out.sees.c; have sf := HO1.out.sees.f; have sr := HO1.out.sees.r; have ss := HO1.out.sees.s; have sl := HO1.out.sees.l
  go_wp2_with fail
  go_end0
  rw [HS.out]
  exact ⟨rfl, After.mk (HO1.out.putR _ HWF.out) (HA1.out.putR _)⟩
end Go.Proofs.YtcglkefaopgjeaaGreatDoor
