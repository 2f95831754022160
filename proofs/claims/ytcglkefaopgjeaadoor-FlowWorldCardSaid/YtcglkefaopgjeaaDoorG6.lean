/- The law FlowCalls. -/
import Derived.Test.YtcglkefaopgjeaaDoorG5
namespace Go.Proofs.YtcglkefaopgjeaaDoor
set_option linter.unusedSimpArgs false
set_option linter.unusedVariables false
open Go.RowKit

@[go_sem] theorem Regs.set1_g4 (r : Regs) (x : Int) : r.cells.setIfInBounds 8 (.int .u16 x) = ({ r with g4 := ⟨x, r.g4.t⟩ } : Regs).cells := rfl

@[go_sem] theorem beginR_ip (r : Regs) : (beginR r).ip = r.ip := rfl
@[go_sem] theorem beginR_g4 (r : Regs) : (beginR r).g4 = ⟨r.g4.v, false⟩ := rfl

set_option maxRecDepth 100000 in
set_option maxHeartbeats 1600000 in
theorem flowCalls_out (r : Regs) (hr : r.wf) (a b c : Int) (fa : Bool) (w : World) (h : decide (r.g4.v < 4) = true ∨ (decide (r.g4.v < 4) = false ∧ decide (65000 < r.g4.v) = true)) :
    Calls Tryd.prog 6 #[r.val, .agg #[.int .u16 a, .int .u16 b, .int .u16 c], .bool fa] w fun e w' => e = .returned (.bool true) ∧ Below w.heap.size w w' := by
  rcases h with h1 | ⟨h1, h2⟩
  all_goals
    go_enter Tryd.func6, Tryd.ntmps6
    go_wp2_with fail
    refine (begin_any _ r hr).mono ?_
    rintro e w1 ⟨C, lv, rfl, ho, hb1, hn⟩; dsimp only
    have HO1 := Lib.hid ho
    have HB1 := Lib.hid (below_past (below_past hb1))
    have c8 : w1.cell? ⟨C.b, 8, none⟩ = some (.int .u16 r.g4.v) := ho.row.cell 8
    clear ho hb1 hn
    go_wp2_with fail
    refine (awake_any _).mono ?_
    rintro e w4 ⟨rfl, hb4⟩; dsimp only
    have HB4 := Lib.hid (HB1.out.trans (hb4.mono HB1.out.size))
    clear c8 hb4
    go_wp2_with fail
    go_ret
    exact ⟨rfl, HB4.out⟩

set_option maxRecDepth 100000 in
set_option maxHeartbeats 1600000 in
theorem flowCalls_near (r : Regs) (hr : r.wf) (a b c : Int) (w : World) (h1 : decide (r.g4.v < 4) = false) (h2 : decide (65000 < r.g4.v) = false) (cm : Int) (hcm : bits .and .u16 c 31 = cm) (bm : Int) (hbm : bits .and .u16 b 63 = bm) :
    Calls Tryd.prog 6 #[r.val, .agg #[.int .u16 a, .int .u16 b, .int .u16 c], .bool false] w fun e w' => e = .returned (.bool true) ∧ Below w.heap.size w w' := by
  obtain ⟨k, hk⟩ : ∃ k : Nat, r.g4.v = ((k + 2 : Nat) : Int) := ⟨(r.g4.v - 2).toNat, by simp at h1 h2; omega⟩
  have hk65 : k < 65000 := by simp at h1 h2; omega
  have hl := near_back r k hk65 hk hr.ip a cm
  rw [← hk] at hl
  have HL := Lib.hid hl
  have hsz : IntKind.u16.wrap (r.g4.v - 2) = (k : Int) := by rw [hk, IntKind.wrap_u16]; omega
  clear hl
  have HK := Lib.hid hk
  have HK65 := Lib.hid hk65
  clear hk hk65
  go_enter Tryd.func6, Tryd.ntmps6
  go_wp2_with fail
  refine (begin_any _ r hr).mono ?_
  rintro e w1 ⟨C, lv, rfl, ho, hb1, hn⟩; dsimp only
  have HO1 := Lib.hid ho
  have HB1 := Lib.hid (below_past (below_past hb1))
  have HN := Lib.hid (fun k (hk : k < w.heap.size) => hn k (by simp; omega))
  have hx := fresh_box hb1 hn ((Row.new w r.cells 31).alloc _)
  have hy := fresh_box hb1 hn (Row.new' (w := w.alloc (.cells r.cells 31)) (n := w.heap.size + 1) (cs := #[.int .u16 a, .int .u16 b, .int .u16 c]) (t := 48) (by simp))
  have HX1 := Lib.hid hx
  have HY1 := Lib.hid hy
  have yc := hy.row.cell
  have yl := hy.row.lt
  have xl := hx.row.lt
  have sc := HO1.out.sees.c; have sf := HO1.out.sees.f; have sr := HO1.out.sees.r; have ss := HO1.out.sees.s; have sl := HO1.out.sees.l
  clear ho hb1 hn hx hy
  go_wp2_with fail
  have HO2 := Lib.hid ((HO1.out.alloc (.cells (beginR r).cells 31)).alloc (.cells #[.int .u16 (IntKind.u16.wrap (256 + bm)), .bool true] 27))
  have HX2 := Lib.hid ((HX1.out.alloc (.cells (beginR r).cells 31)).alloc (.cells #[.int .u16 (IntKind.u16.wrap (256 + bm)), .bool true] 27))
  have HY2 := Lib.hid ((HY1.out.alloc (.cells (beginR r).cells 31)).alloc (.cells #[.int .u16 (IntKind.u16.wrap (256 + bm)), .bool true] 27))
  have HZ2 := Lib.hid ((Box.new HO1.out (beginR r).cells 31).alloc (.cells #[.int .u16 (IntKind.u16.wrap (256 + bm)), .bool true] 27))
  have HB2 := Lib.hid ((HB1.out.alloc HB1.out.size (.cells (beginR r).cells 31)).alloc (by have := HB1.out.size; simp; omega) (.cells #[.int .u16 (IntKind.u16.wrap (256 + bm)), .bool true] 27))
  clear sc sf sr ss sl; clear yc yl xl
  refine (do_calln _ _ _ _ HO2.out ⟨false, 0, 0, 0, 0, 0, 0, 0, 0, 0⟩ ⟨39, 10, 0, false⟩ a zV rfl rfl).mono ?_
  rintro e w3 ⟨rfl, lv3, h3, f3, k3⟩; dsimp only
  have HO3 := Lib.hid h3
  have HX3 := Lib.hid (HX2.out.step f3 k3)
  have HY3 := Lib.hid (HY2.out.step f3 k3)
  have HZ3 := Lib.hid (HZ2.out.step f3 k3)
  have HB3 := Lib.hid (below_step HB2.out f3 HN.out)
  have HN3 := Lib.hid (own_lv HN.out k3 (by have := HB1.out.size; simp; omega))
  have c24 : w3.cell? ⟨C.b, 24, none⟩ = some (.int .u16 (IntKind.u16.wrap (r.ip + a))) := by
    rw [(h3.row.cell 24), mcell24, HL.out.1]
  have c8 : w3.cell? ⟨C.b, 8, none⟩ = some (.int .u16 (k : Int)) := by
    rw [(h3.row.cell 8), mcell8, HL.out.1]
  clear h3 f3 k3
  have yc := HY3.out.row.cell
  have zc := HZ3.out.row.cell
  go_wp2_with fail
  refine range_of (w3) ?_; intro S inst ω hin hout
  have r24 := range_cell hin c24
  have r8 := range_cell hin c8
  clear c24 c8 yc zc
  refine wp_region_range_lit ω (by kernel_rfl) (by kernel_rfl) (hout _ (Below.refl _ _).drew) ?_
  repeat (go_big_quiet_step (fail))
  refine wpQuiet_nil ?_; intro _ hw'; obtain ⟨nq, rfl⟩ := hw'
  have HO4 := Lib.hid (HO3.out.below (hin nq))
  have HX4 := Lib.hid (HX3.out.below (hin nq))
  have HY4 := Lib.hid (HY3.out.below (hin nq))
  have HZ4 := Lib.hid (HZ3.out.below (hin nq))
  have HB4 := Lib.hid (HB3.out.trans ((hin nq).mono HB3.out.size))
  clear r24 r8
  generalize ω nq = w4 at HO4 HX4 HY4 HZ4 HB4 ⊢
  clear hin hout inst ω
  have yc := HY4.out.row.cell
  go_wp2_with fail
  refine (do_ret _ _ _ _ HO4.out ⟨false, 0, 0, 0, 0, 0, 0, 0, 0, 0⟩ ⟨56, 7, 0, false⟩ cm zV false rfl).mono ?_
  rintro e w5 ⟨rfl, lv5, h5, f5, k5⟩; dsimp only
  have HO5 := Lib.hid h5
  have HZ5 := Lib.hid (HZ4.out.step f5 k5)
  have HB5 := Lib.hid (below_step HB4.out f5 HN3.out)
  clear h5 f5 k5 yc
  obtain ⟨zc, zf, zr, zs, zl⟩ := HZ5.out.row.sees
  go_wp2_with fail
  obtain ⟨Rw, hRw⟩ : ∃ Rw : Regs, Rw = { beginR r with g4 := ⟨IntKind.u16.wrap (r.g4.v + cm), false⟩, ip := r.ip } := ⟨_, rfl⟩
  have hr5 : (((begun r).callN a).back false cm).r = Rw := by rw [hRw]; exact HL.out.2.1
  have G1 := HO5.out.alloc (.cells Rw.cells 31)
  have g2 := G1.sees.r
  have g3 := (Row.new w5 Rw.cells 31).sees.r
  have HB6 := Lib.hid (HB5.out.alloc HB5.out.size (.cells Rw.cells 31))
  rw [hr5] at g2
  have st := HL.out.2.2
  clear zc zf zr zs zl hr5
  rw [← hRw]
  refine range_of (w5.alloc (.cells Rw.cells 31)) ?_; intro S inst ω hin hout
  have r2 := range_regs hin g2
  have r3 := range_regs hin g3
  have k1 := range_call hin hout awake_any
  have k2 := range_calls hin hout (fun w hw => (state_any w C lv5 _ (G1.below hw)).mono (by rintro e w' ⟨rfl, rfl⟩; rw [st]; exact ⟨rfl, Below.refl _ _⟩))
  have eqr := eq_regs Rw
  clear g2 g3 G1 hRw st
  refine wp_region_range_lit ω (by kernel_rfl) (by kernel_rfl) (hout _ (Below.refl _ _).drew) ?_
  repeat (go_big_quiet_step (first | (with_reducible exact k1 _) | (with_reducible exact k2 _)))
  refine wpQuiet_nil ?_; intro _ hw'; obtain ⟨nq, rfl⟩ := hw'
  go_wp2_with fail
  go_ret
  exact ⟨rfl, HB6.out.trans ((hin nq).mono HB6.out.size)⟩
set_option maxRecDepth 100000 in
set_option maxHeartbeats 1600000 in
theorem flowCalls_far (r : Regs) (hr : r.wf) (a b c : Int) (w : World) (h1 : decide (r.g4.v < 4) = false) (h2 : decide (65000 < r.g4.v) = false) (cm : Int) (hcm : bits .and .u16 c 31 = cm) (bm : Int) (hbm : bits .and .u16 b 63 = bm) (ha : 0 ≤ a ∧ a ≤ 65535) :
    Calls Tryd.prog 6 #[r.val, .agg #[.int .u16 a, .int .u16 b, .int .u16 c], .bool true] w fun e w' => e = .returned (.bool true) ∧ Below w.heap.size w w' := by
  obtain ⟨k, hk⟩ : ∃ k : Nat, r.g4.v = ((k + 4 : Nat) : Int) := ⟨(r.g4.v - 4).toNat, by simp at h1 h2; omega⟩
  have hk65 : k + 2 < 65000 := by simp at h1 h2; omega
  have hl := far_back r k hk65 hk a cm ⟨IntKind.u16.wrap (256 + bm), true⟩
  rw [← hk] at hl
  have HL := Lib.hid hl
  have hsz : IntKind.u16.wrap (r.g4.v - 4) = (k : Int) := by rw [hk, IntKind.wrap_u16]; omega
  clear hl
  have HK := Lib.hid hk
  have HK65 := Lib.hid hk65
  clear hk hk65
  go_enter Tryd.func6, Tryd.ntmps6
  go_wp2_with fail
  refine (begin_any _ r hr).mono ?_
  rintro e w1 ⟨C, lv, rfl, ho, hb1, hn⟩; dsimp only
  have HO1 := Lib.hid ho
  have HB1 := Lib.hid (below_past (below_past hb1))
  have HN := Lib.hid (fun k (hk : k < w.heap.size) => hn k (by simp; omega))
  have hx := fresh_box hb1 hn ((Row.new w r.cells 31).alloc _)
  have hy := fresh_box hb1 hn (Row.new' (w := w.alloc (.cells r.cells 31)) (n := w.heap.size + 1) (cs := #[.int .u16 a, .int .u16 b, .int .u16 c]) (t := 48) (by simp))
  have HX1 := Lib.hid hx
  have HY1 := Lib.hid hy
  have yc := hy.row.cell
  have yl := hy.row.lt
  have xl := hx.row.lt
  have sc := HO1.out.sees.c; have sf := HO1.out.sees.f; have sr := HO1.out.sees.r; have ss := HO1.out.sees.s; have sl := HO1.out.sees.l
  clear ho hb1 hn hx hy
  go_wp2_with fail
  have HO2 := Lib.hid ((HO1.out.alloc (.cells (beginR r).cells 31)).alloc (.cells #[.int .u16 (IntKind.u16.wrap (256 + bm)), .bool true] 27))
  have HX2 := Lib.hid ((HX1.out.alloc (.cells (beginR r).cells 31)).alloc (.cells #[.int .u16 (IntKind.u16.wrap (256 + bm)), .bool true] 27))
  have HY2 := Lib.hid ((HY1.out.alloc (.cells (beginR r).cells 31)).alloc (.cells #[.int .u16 (IntKind.u16.wrap (256 + bm)), .bool true] 27))
  have HZ2 := Lib.hid ((Box.new HO1.out (beginR r).cells 31).alloc (.cells #[.int .u16 (IntKind.u16.wrap (256 + bm)), .bool true] 27))
  have HB2 := Lib.hid ((HB1.out.alloc HB1.out.size (.cells (beginR r).cells 31)).alloc (by have := HB1.out.size; simp; omega) (.cells #[.int .u16 (IntKind.u16.wrap (256 + bm)), .bool true] 27))
  have hv := (Row.new (w1.alloc (.cells (beginR r).cells 31)) #[.int .u16 (IntKind.u16.wrap (256 + bm)), .bool true] 27)
  rw [World.size_alloc] at hv
  have HV2 := Lib.hid (Box.mk (C := C) (lv := lv) hv (HO1.out.fresh (Nat.le_succ _)))
  clear sc sf sr ss sl; clear yc yl xl hv
  refine (do_callf _ _ _ _ HO2.out ⟨false, 0, 0, 0, 0, 0, 0, 0, 0, 0⟩ ⟨40, 11, 0, false⟩ a ⟨IntKind.u16.wrap (256 + bm), true⟩ ⟨wrap16_lo _, wrap16_hi _⟩ ha.1 ha.2 rfl rfl).mono ?_
  rintro e w3 ⟨rfl, lv3, h3, f3, k3⟩; dsimp only
  have HO3 := Lib.hid h3
  have HX3 := Lib.hid (HX2.out.step f3 k3)
  have HY3 := Lib.hid (HY2.out.step f3 k3)
  have HZ3 := Lib.hid (HZ2.out.step f3 k3)
  have HV3 := Lib.hid (HV2.out.step f3 k3)
  have HB3 := Lib.hid (below_step HB2.out f3 HN.out)
  have HN3 := Lib.hid (own_lv HN.out k3 (by have := HB1.out.size; simp; omega))
  have c24 : w3.cell? ⟨C.b, 24, none⟩ = some (.int .u16 a) := by
    rw [(h3.row.cell 24), mcell24, HL.out.1]
  have c8 : w3.cell? ⟨C.b, 8, none⟩ = some (.int .u16 (k : Int)) := by
    rw [(h3.row.cell 8), mcell8, HL.out.1]
  have c18 : w3.cell? ⟨C.b, 18, none⟩ = some (.int .u16 (IntKind.u16.wrap (256 + bm))) := by
    rw [(h3.row.cell 18), mcell18, HL.out.1]
  have c19 : w3.cell? ⟨C.b, 19, none⟩ = some (.bool true) := by
    rw [(h3.row.cell 19), mcell19, HL.out.1]
  have v0 : w3.cell? ⟨w1.heap.size + 1, 0, none⟩ = some (.int .u16 (IntKind.u16.wrap (256 + bm))) := HV3.out.row.cell 0
  have v1 : w3.cell? ⟨w1.heap.size + 1, 1, none⟩ = some (.bool true) := HV3.out.row.cell 1
  clear h3 f3 k3
  have yc := HY3.out.row.cell
  have zc := HZ3.out.row.cell
  go_wp2_with fail
  refine range_of (w3) ?_; intro S inst ω hin hout
  have r24 := range_cell hin c24
  have r8 := range_cell hin c8
  have r18 := range_cell hin c18
  have r19 := range_cell hin c19
  have rv0 := range_cell hin v0
  have rv1 := range_cell hin v1
  have eqv := eq_V 9998 (IntKind.u16.wrap (256 + bm)) true
  clear c24 c8 yc zc c18 c19 v0 v1
  refine wp_region_range_lit ω (by kernel_rfl) (by kernel_rfl) (hout _ (Below.refl _ _).drew) ?_
  repeat (go_big_quiet_step (fail))
  refine wpQuiet_nil ?_; intro _ hw'; obtain ⟨nq, rfl⟩ := hw'
  have HO4 := Lib.hid (HO3.out.below (hin nq))
  have HX4 := Lib.hid (HX3.out.below (hin nq))
  have HY4 := Lib.hid (HY3.out.below (hin nq))
  have HZ4 := Lib.hid (HZ3.out.below (hin nq))
  have HB4 := Lib.hid (HB3.out.trans ((hin nq).mono HB3.out.size))
  clear r24 r8 r18 r19 rv0 rv1 eqv
  generalize ω nq = w4 at HO4 HX4 HY4 HZ4 HB4 ⊢
  clear hin hout inst ω
  have yc := HY4.out.row.cell
  go_wp2_with fail
  refine (do_ret _ _ _ _ HO4.out ⟨false, 0, 0, 0, 0, 0, 0, 0, 0, 0⟩ ⟨57, 7, 0, false⟩ cm zV true rfl).mono ?_
  rintro e w5 ⟨rfl, lv5, h5, f5, k5⟩; dsimp only
  have HO5 := Lib.hid h5
  have HZ5 := Lib.hid (HZ4.out.step f5 k5)
  have HB5 := Lib.hid (below_step HB4.out f5 HN3.out)
  clear h5 f5 k5 yc
  obtain ⟨zc, zf, zr, zs, zl⟩ := HZ5.out.row.sees
  go_wp2_with fail
  obtain ⟨Rw, hRw⟩ : ∃ Rw : Regs, Rw = { beginR r with g4 := ⟨IntKind.u16.wrap (r.g4.v + cm), false⟩, ip := r.ip } := ⟨_, rfl⟩
  have hr5 : (((begun r).callF a ⟨IntKind.u16.wrap (256 + bm), true⟩).back true cm).r = Rw := by rw [hRw]; exact HL.out.2.1
  have G1 := HO5.out.alloc (.cells Rw.cells 31)
  have g2 := G1.sees.r
  have g3 := (Row.new w5 Rw.cells 31).sees.r
  have HB6 := Lib.hid (HB5.out.alloc HB5.out.size (.cells Rw.cells 31))
  rw [hr5] at g2
  have st := HL.out.2.2
  clear zc zf zr zs zl hr5
  rw [← hRw]
  refine range_of (w5.alloc (.cells Rw.cells 31)) ?_; intro S inst ω hin hout
  have r2 := range_regs hin g2
  have r3 := range_regs hin g3
  have k1 := range_call hin hout awake_any
  have k2 := range_calls hin hout (fun w hw => (state_any w C lv5 _ (G1.below hw)).mono (by rintro e w' ⟨rfl, rfl⟩; rw [st]; exact ⟨rfl, Below.refl _ _⟩))
  have eqr := eq_regs Rw
  clear g2 g3 G1 hRw st
  refine wp_region_range_lit ω (by kernel_rfl) (by kernel_rfl) (hout _ (Below.refl _ _).drew) ?_
  repeat (go_big_quiet_step (first | (with_reducible exact k1 _) | (with_reducible exact k2 _)))
  refine wpQuiet_nil ?_; intro _ hw'; obtain ⟨nq, rfl⟩ := hw'
  go_wp2_with fail
  go_ret
  exact ⟨rfl, HB6.out.trans ((hin nq).mono HB6.out.size)⟩
end Go.Proofs.YtcglkefaopgjeaaDoor
