/- The law FlowJumps. -/
import Derived.Test.YtcglkefaopgjeaaDoorG2
namespace Go.Proofs.YtcglkefaopgjeaaDoor
set_option linter.unusedSimpArgs false
set_option linter.unusedVariables false
open Go.RowKit

theorem do_jcc' (w : World) (C : Phys) (lv : Value) (m : Mach) (h : Own w C lv m) (i : Inst) (r : IRow) (n : Int) (sel : V) (h0 : 17 ≤ r.name) (h1 : r.name ≤ 32) (m' : Mach) (hm : m' = if holdsB r.name m.r.f then m.jump n else m) :
    Calls Tryd.prog 11 #[.pointer (some ⟨C.b, 0, none⟩), i.val, r.val, (⟨n, false⟩ : V).val, sel.val] w fun e w' => e = .returned (.tuple #[]) ∧ After C lv w m' w' := hm ▸ do_jcc w C lv m h i r n sel h0 h1

abbrev begun (r : Regs) : Mach := ⟨beginR r, 4096, 65536, 0, fun _ => 0, fun _ => 0, [77], 0, []⟩

set_option maxRecDepth 100000 in
set_option maxHeartbeats 1600000 in
theorem flowJumps_any (r : Regs) (hr : r.wf) (n by' : Int) (w : World) (nn : Nat) (hnn : bits .and .i64 n 15 = (nn : Int)) (hn16 : nn < 16) :
    Calls Tryd.prog 4 #[r.val, .int .i64 n, .int .u16 by'] w fun e w' => e = .returned (.bool true) ∧ Below w.heap.size w w' := by
  have hw1 : IntKind.i64.wrap (17 + (nn : Int)) = 17 + (nn : Int) := IntWalk.i64_in _ (by omega)
  have b0 : (17 : Int) ≤ 17 + (nn : Int) := by omega
  have b1 : 17 + (nn : Int) ≤ 32 := by omega
  have b2 : -9223372036854775808 ≤ 17 + (nn : Int) := by omega
  have b3 : 17 + (nn : Int) ≤ 9223372036854775807 := by omega
  obtain ⟨hb, hh⟩ : ∃ hb, holdsB (17 + (nn : Int)) r.f = hb := ⟨_, rfl⟩
  obtain ⟨R, hR⟩ : ∃ R : Regs, R = if hb then { beginR r with ip := IntKind.u16.wrap (r.ip + by') } else beginR r := ⟨_, rfl⟩
  have hm : ({ begun r with r := R } : Mach) = if holdsB (17 + (nn : Int)) (beginR r).f then (begun r).jump by' else begun r := by
    rw [hR, show (beginR r).f = r.f from rfl, hh]; cases hb <;> rfl
  have HM := Lib.hid hm
  have HH := Lib.hid hh
  have HR := Lib.hid hR
  clear hm hh hR
  go_enter Tryd.func4, Tryd.ntmps4
  go_wp2_with fail
  refine (begin_any _ r hr).mono ?_
  rintro e w1 ⟨C, lv, rfl, ho, hb1, hn⟩; dsimp only
  have HO1 := Lib.hid ho
  have HR1 := Lib.hid (fresh_box hb1 hn (Row.new w r.cells 31))
  have HB1 := Lib.hid hb1
  have HN := Lib.hid hn
  have sc := HO1.out.sees.c; have sf := HO1.out.sees.f; have sr := HO1.out.sees.r; have ss := HO1.out.sees.s; have sl := HO1.out.sees.l
  clear ho hb1 hn
  go_wp2_with fail
  have HO2 := Lib.hid (HO1.out.alloc (.cells (beginR r).cells 31))
  have HR2 := Lib.hid (HR1.out.alloc (.cells (beginR r).cells 31))
  have HX2 := Lib.hid (Box.new HO1.out (beginR r).cells 31)
  clear sc sf sr ss sl
  refine (do_jcc' _ _ _ _ HO2.out ⟨false, 0, 0, 0, 0, 0, 0, 0, 0, 0⟩ ⟨17 + nn, 9, 0, false⟩ by' zV b0 b1 _ HM.out).mono ?_
  rintro e w2 ⟨rfl, lv2, h2, f2, k2⟩; dsimp only
  have HO3 := Lib.hid h2
  have HR3 := Lib.hid (HR2.out.step f2 k2)
  have HX3 := Lib.hid (HX2.out.step f2 k2)
  have HB3 := Lib.hid (below_step (fresh_own HB1.out ((Acc.refl C lv w1).alloc (.cells (beginR r).cells 31)) HN.out) f2 HN.out)
  clear h2 f2 k2
  have sc := HO3.out.sees.c; have sf := HO3.out.sees.f; have sr := HO3.out.sees.r; have ss := HO3.out.sees.s; have sl := HO3.out.sees.l
  obtain ⟨xc, xf, xr, xs, xl⟩ := HR3.out.row.sees
  obtain ⟨yc, yf, yr, ys, yl⟩ := HX3.out.row.sees
  go_wp2_with fail
  refine (holds_any _ _ _ b2 b3).mono ?_
  rw [HH.out]
  rintro e w3 ⟨rfl, hb3⟩; dsimp only
  have HO4 := Lib.hid ((HO3.out.alloc (.cells (beginR r).cells 31)).below hb3)
  have HR4 := Lib.hid ((HR3.out.alloc (.cells (beginR r).cells 31)).below hb3)
  have HX4 := Lib.hid ((Box.new HO3.out (beginR r).cells 31).below hb3)
  have HB4 := Lib.hid (HB3.out.trans (((Below.refl _ _).alloc (Nat.le_refl _) (.cells (beginR r).cells 31)).trans (hb3.mono (by simp)) |>.mono HB3.out.size))
  have ne : C.b ≠ w2.heap.size := by omega
  have NE := Lib.hid ne
  have D := Lib.hid (HO3.out.fresh (Nat.le_refl w2.heap.size))
  clear sc sf sr ss sl; clear xc xf xr xs xl yc yf yr ys yl hb3 ne
  obtain ⟨xc, xf, xr, xs, xl⟩ := HR4.out.row.sees
  obtain ⟨yc, yf, yr, ys, yl⟩ := HX4.out.row.sees
  cases hb with
  | false =>
    have hr2 : R = beginR r := HR.out
    subst hr2
    go_wp2_with fail
    have G1 := HO4.out
    have HB5 := Lib.hid HB4.out
    have g2 := HO4.out.sees.r
    have g3 := HX4.out.row.sees.r
    clear xc xf xr xs xl yc yf yr ys yl
    refine range_of (w3) ?_; intro S inst ω hin hout
    have r2 := range_regs hin g2
    have r3 := range_regs hin g3
    have k1 := range_call hin hout awake_any
    have k2 := range_calls hin hout (fun w hw => (state_any w C lv2 _ (G1.below hw)).mono (by rintro e w' ⟨rfl, rfl⟩; exact ⟨rfl, Below.refl _ _⟩))
    have eqr := eq_regs (beginR r)
    clear g2 g3 G1
    refine wp_region_range_lit ω (by kernel_rfl) (by kernel_rfl) (hout _ (Below.refl _ _).drew) ?_
    repeat (go_big_quiet_step (first | (with_reducible exact k1 _) | (with_reducible exact k2 _)))
    refine wpQuiet_nil ?_; intro _ hw'; obtain ⟨nq, rfl⟩ := hw'
    go_wp2_with fail
    go_ret
    exact ⟨rfl, below_past (HB5.out.trans ((hin nq).mono HB5.out.size))⟩
  | true =>
    have hr2 : R = { beginR r with ip := IntKind.u16.wrap (r.ip + by') } := HR.out
    subst hr2
    go_wp2_with fail
    have G1 := HO4.out.setFresh HO3.out (p := ⟨w2.heap.size, 24, none⟩) (Nat.le_refl _) (.int .u16 (IntKind.u16.wrap (r.ip + by')))
    have HB5 := Lib.hid (HB4.out.setCell (p := ⟨w2.heap.size, 24, none⟩) (show _ ≤ w2.heap.size from HB3.out.size) (.int .u16 (IntKind.u16.wrap (r.ip + by'))))
    have g2 := G1.sees.r
    have g3 := (HX4.out.row.setCell 24 (.int .u16 (IntKind.u16.wrap (r.ip + by'))))
    rw [Regs.set_ip] at g3
    have g4 := g3.sees.r
    clear xc xf xr xs xl yc yf yr ys yl g3
    refine range_of (w3.setCell ⟨w2.heap.size, 24, none⟩ (.int .u16 (IntKind.u16.wrap (r.ip + by')))) ?_; intro S inst ω hin hout
    have r2 := range_regs hin g2
    have r3 := range_regs hin g4
    have k1 := range_call hin hout awake_any
    have k2 := range_calls hin hout (fun w hw => (state_any w C lv2 _ (G1.below hw)).mono (by rintro e w' ⟨rfl, rfl⟩; exact ⟨rfl, Below.refl _ _⟩))
    have eqr := eq_regs { beginR r with ip := IntKind.u16.wrap (r.ip + by') }
    clear g2 g4 G1
    refine wp_region_range_lit ω (by kernel_rfl) (by kernel_rfl) (hout _ (Below.refl _ _).drew) ?_
    repeat (go_big_quiet_step (first | (with_reducible exact k1 _) | (with_reducible exact k2 _)))
    refine wpQuiet_nil ?_; intro _ hw'; obtain ⟨nq, rfl⟩ := hw'
    go_wp2_with fail
    go_ret
    exact ⟨rfl, below_past (HB5.out.trans ((hin nq).mono HB5.out.size))⟩
end Go.Proofs.YtcglkefaopgjeaaDoor
