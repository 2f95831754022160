/- Package core: Put, of operands that are no places in memory. -/
import Derived.Test.YtcglkefaopgjeaaGreatDoorJ5
namespace Go.Proofs.YtcglkefaopgjeaaGreatDoor
set_option linter.unusedSimpArgs false
set_option linter.unusedVariables false
open Go.RowKit

/-- The boxes that Put begins with. -/
structure PutIn (C : Phys) (lv : Value) (w : World) (m : Mach) (i : Inst) (t : V) (W0 : World) : Prop where
  o : Own W0 C lv m
  a : Acc C lv w lv W0
  i : Box C lv W0 w.heap.size (instC i) 30
  t : Box C lv W0 (w.heap.size + 1) (valC t) 24
theorem putIn {C : Phys} {lv : Value} {w : World} {m : Mach} (h : Own w C lv m) (i : Inst) (t : V) : PutIn C lv w m i t ((w.alloc (.cells (instC i) 30)).alloc (.cells (valC t) 24)) := by
  have o1 := h.alloc (.cells (instC i) 30)
  have x2 := Box.new o1 (valC t) 24
  rw [World.size_alloc] at x2
  exact ⟨o1.alloc _, ((Acc.refl C lv w).alloc _).alloc _, (Box.new h _ _).alloc _, x2⟩

set_option maxRecDepth 100000 in
set_option maxHeartbeats 1600000 in
theorem put_1 (w : World) (C : Phys) (lv : Value) (m : Mach) (h : Own w C lv m) (i : Inst) (he : (i.mod == 3) = true) (t : V) (ht : t.wf) :
    Calls Tryz.prog 179 #[.pointer (some ⟨C.b, 0, none⟩), i.val, .int .i64 1, t.val] w fun e w' => e = .returned (.tuple #[]) ∧ After C lv w (m.setRegByte i.rm t.v) w' := by
  have hs := putIn h i t
  have hwf := h.wf.r
  clear h
  have xi := hs.i.row.cell
  have xt := hs.t.row.cell
  go_enter Tryz.func179, Tryz.ntmps179
  go_wp2_with fail
  generalize (w.alloc (.cells (instC i) 30)).alloc (.cells (valC t) 24) = W0 at *
  have HO0 := Lib.hid hs.o
  have HA0 := Lib.hid hs.a
  clear hs xi xt
  refine (setByte_any _ _ _ _ HO0.out i.rm t ht).mono ?_
  rintro e w2 ⟨rfl, lv2, h2, f2, k2⟩; dsimp only
  have HO2 := Lib.hid h2
  have HA2 := Lib.hid (HA0.out.trans ⟨f2, k2⟩)
  clear h2 f2 k2
  go_wp2_with fail
  (first | go_end0 | (((try simp only [Exit.inBlock, Exit.then]); refine bodyPost_ret (results_none rfl _ _ _) rfl ?_)))
  exact ⟨rfl, After.mk HO2.out HA2.out⟩

set_option maxRecDepth 100000 in
set_option maxHeartbeats 1600000 in
theorem put_3 (w : World) (C : Phys) (lv : Value) (m : Mach) (h : Own w C lv m) (i : Inst)  (t : V) (ht : t.wf) :
    Calls Tryz.prog 179 #[.pointer (some ⟨C.b, 0, none⟩), i.val, .int .i64 3, t.val] w fun e w' => e = .returned (.tuple #[]) ∧ After C lv w (m.setRegByte i.reg t.v) w' := by
  have hs := putIn h i t
  have hwf := h.wf.r
  clear h
  have xi := hs.i.row.cell
  have xt := hs.t.row.cell
  go_enter Tryz.func179, Tryz.ntmps179
  go_wp2_with fail
  generalize (w.alloc (.cells (instC i) 30)).alloc (.cells (valC t) 24) = W0 at *
  have HO0 := Lib.hid hs.o
  have HA0 := Lib.hid hs.a
  clear hs xi xt
  refine (setByte_any _ _ _ _ HO0.out i.reg t ht).mono ?_
  rintro e w2 ⟨rfl, lv2, h2, f2, k2⟩; dsimp only
  have HO2 := Lib.hid h2
  have HA2 := Lib.hid (HA0.out.trans ⟨f2, k2⟩)
  clear h2 f2 k2
  go_wp2_with fail
  (first | go_end0 | (((try simp only [Exit.inBlock, Exit.then]); refine bodyPost_ret (results_none rfl _ _ _) rfl ?_)))
  exact ⟨rfl, After.mk HO2.out HA2.out⟩

set_option maxRecDepth 100000 in
set_option maxHeartbeats 1600000 in
theorem put_14 (w : World) (C : Phys) (lv : Value) (m : Mach) (h : Own w C lv m) (i : Inst)  (t : V) (ht : t.wf) :
    Calls Tryz.prog 179 #[.pointer (some ⟨C.b, 0, none⟩), i.val, .int .i64 14, t.val] w fun e w' => e = .returned (.tuple #[]) ∧ After C lv w (m.setRegByte 0 t.v) w' := by
  have hs := putIn h i t
  have hwf := h.wf.r
  clear h
  have xi := hs.i.row.cell
  have xt := hs.t.row.cell
  go_enter Tryz.func179, Tryz.ntmps179
  go_wp2_with fail
  generalize (w.alloc (.cells (instC i) 30)).alloc (.cells (valC t) 24) = W0 at *
  have HO0 := Lib.hid hs.o
  have HA0 := Lib.hid hs.a
  clear hs xi xt
  refine (setByte_any _ _ _ _ HO0.out 0 t ht).mono ?_
  rintro e w2 ⟨rfl, lv2, h2, f2, k2⟩; dsimp only
  have HO2 := Lib.hid h2
  have HA2 := Lib.hid (HA0.out.trans ⟨f2, k2⟩)
  clear h2 f2 k2
  go_wp2_with fail
  (first | go_end0 | (((try simp only [Exit.inBlock, Exit.then]); refine bodyPost_ret (results_none rfl _ _ _) rfl ?_)))
  exact ⟨rfl, After.mk HO2.out HA2.out⟩

set_option maxRecDepth 100000 in
set_option maxHeartbeats 1600000 in
theorem put_21 (w : World) (C : Phys) (lv : Value) (m : Mach) (h : Own w C lv m) (i : Inst) (h0 : 0 ≤ i.op) (h1 : i.op ≤ 255) (t : V) (ht : t.wf) :
    Calls Tryz.prog 179 #[.pointer (some ⟨C.b, 0, none⟩), i.val, .int .i64 21, t.val] w fun e w' => e = .returned (.tuple #[]) ∧ After C lv w (m.setRegByte (i.op % 8) t.v) w' := by
  have hs := putIn h i t
  have hwf := h.wf.r
  clear h
  have e7 := u8_and7 i.op h0 (by omega)
  have xi := hs.i.row.cell
  have xt := hs.t.row.cell
  go_enter Tryz.func179, Tryz.ntmps179
  go_wp2_with fail
  generalize (w.alloc (.cells (instC i) 30)).alloc (.cells (valC t) 24) = W0 at *
  have HO0 := Lib.hid hs.o
  have HA0 := Lib.hid hs.a
  clear hs xi xt
  refine (setByte_any _ _ _ _ HO0.out (i.op % 8) t ht).mono ?_
  rintro e w2 ⟨rfl, lv2, h2, f2, k2⟩; dsimp only
  have HO2 := Lib.hid h2
  have HA2 := Lib.hid (HA0.out.trans ⟨f2, k2⟩)
  clear h2 f2 k2
  go_wp2_with fail
  (first | go_end0 | (((try simp only [Exit.inBlock, Exit.then]); refine bodyPost_ret (results_none rfl _ _ _) rfl ?_)))
  exact ⟨rfl, After.mk HO2.out HA2.out⟩

set_option maxRecDepth 100000 in
set_option maxHeartbeats 1600000 in
theorem put_2 (w : World) (C : Phys) (lv : Value) (m : Mach) (h : Own w C lv m) (i : Inst) (he : (i.mod == 3) = true) (t : V) (ht : t.wf) :
    Calls Tryz.prog 179 #[.pointer (some ⟨C.b, 0, none⟩), i.val, .int .i64 2, t.val] w fun e w' => e = .returned (.tuple #[]) ∧ After C lv w (m.setR (m.r.put i.rm t)) w' := by
  have hs := putIn h i t
  have hwf := h.wf.r
  clear h
  have xi := hs.i.row.cell
  have xt := hs.t.row.cell
  go_enter Tryz.func179, Tryz.ntmps179
  go_wp2_with fail
  generalize (w.alloc (.cells (instC i) 30)).alloc (.cells (valC t) 24) = W0 at *
  have HO0 := Lib.hid hs.o
  have HA0 := Lib.hid hs.a
  have HWF := Lib.hid (Regs.put_wf hwf (i.rm) ht)
  have sr := hs.o.sees.r
  have c3 : W0.cell? ⟨w.heap.size, 6, none⟩ = some (.int .i64 i.rm) := hs.i.row.cell 6
  have c4 : W0.cell? ⟨w.heap.size + 1, 0, none⟩ = some (.int .u16 t.v) := hs.t.row.cell 0
  have c5 : W0.cell? ⟨w.heap.size + 1, 1, none⟩ = some (.bool t.t) := hs.t.row.cell 1
  clear hs xi xt hwf
  refine range_of (W0) ?_; intro S inst ω hin hout
  have r1 := range_regs hin sr
  have r2 := range_cell hin c3
  have r3 := range_cell hin c4
  have r4 := range_cell hin c5
  have k1 := range_call hin hout (put_any m.r i.rm t)
  clear sr c4 c5
  refine wp_region_tail_range ω 11 (by kernel_rfl) (by kernel_rfl) (hout _ (Below.refl _ _).drew) ?_; simp only [List.take_succ_cons, List.take_zero, List.drop_succ_cons, List.drop_zero]
  repeat (go_big_quiet_step ((with_reducible exact k1 _)))
  refine wpQuiet_nil ?_; intro _ hw'; obtain ⟨nq, rfl⟩ := hw'
  have HO2 := Lib.hid (HO0.out.below (hin nq))
  have HA2 := Lib.hid (HA0.out.below (hin nq))
  clear r1 r3 r4 k1
  generalize ω nq = w1 at HO2 HA2 ⊢
  have sc := HO2.out.sees.c; have sf := HO2.out.sees.f; have sr := HO2.out.sees.r; have ss := HO2.out.sees.s; have sl := HO2.out.sees.l
  go_wp2_with fail
  (first | go_end0 | (((try simp only [Exit.inBlock, Exit.then]); refine bodyPost_ret (results_none rfl _ _ _) rfl ?_)))
  exact ⟨rfl, After.mk (HO2.out.putR _ HWF.out) (HA2.out.putR _)⟩

set_option maxRecDepth 100000 in
set_option maxHeartbeats 1600000 in
theorem put_4 (w : World) (C : Phys) (lv : Value) (m : Mach) (h : Own w C lv m) (i : Inst)  (t : V) (ht : t.wf) :
    Calls Tryz.prog 179 #[.pointer (some ⟨C.b, 0, none⟩), i.val, .int .i64 4, t.val] w fun e w' => e = .returned (.tuple #[]) ∧ After C lv w (m.setR (m.r.put i.reg t)) w' := by
  have hs := putIn h i t
  have hwf := h.wf.r
  clear h
  have xi := hs.i.row.cell
  have xt := hs.t.row.cell
  go_enter Tryz.func179, Tryz.ntmps179
  go_wp2_with fail
  generalize (w.alloc (.cells (instC i) 30)).alloc (.cells (valC t) 24) = W0 at *
  have HO0 := Lib.hid hs.o
  have HA0 := Lib.hid hs.a
  have HWF := Lib.hid (Regs.put_wf hwf (i.reg) ht)
  have sr := hs.o.sees.r
  have c3 : W0.cell? ⟨w.heap.size, 5, none⟩ = some (.int .i64 i.reg) := hs.i.row.cell 5
  have c4 : W0.cell? ⟨w.heap.size + 1, 0, none⟩ = some (.int .u16 t.v) := hs.t.row.cell 0
  have c5 : W0.cell? ⟨w.heap.size + 1, 1, none⟩ = some (.bool t.t) := hs.t.row.cell 1
  clear hs xi xt hwf
  refine range_of (W0) ?_; intro S inst ω hin hout
  have r1 := range_regs hin sr
  have r2 := range_cell hin c3
  have r3 := range_cell hin c4
  have r4 := range_cell hin c5
  have k1 := range_call hin hout (put_any m.r i.reg t)
  clear sr c4 c5
  refine wp_region_tail_range ω 11 (by kernel_rfl) (by kernel_rfl) (hout _ (Below.refl _ _).drew) ?_; simp only [List.take_succ_cons, List.take_zero, List.drop_succ_cons, List.drop_zero]
  repeat (go_big_quiet_step ((with_reducible exact k1 _)))
  refine wpQuiet_nil ?_; intro _ hw'; obtain ⟨nq, rfl⟩ := hw'
  have HO2 := Lib.hid (HO0.out.below (hin nq))
  have HA2 := Lib.hid (HA0.out.below (hin nq))
  clear r1 r3 r4 k1
  generalize ω nq = w1 at HO2 HA2 ⊢
  have sc := HO2.out.sees.c; have sf := HO2.out.sees.f; have sr := HO2.out.sees.r; have ss := HO2.out.sees.s; have sl := HO2.out.sees.l
  go_wp2_with fail
  (first | go_end0 | (((try simp only [Exit.inBlock, Exit.then]); refine bodyPost_ret (results_none rfl _ _ _) rfl ?_)))
  exact ⟨rfl, After.mk (HO2.out.putR _ HWF.out) (HA2.out.putR _)⟩

set_option maxRecDepth 100000 in
set_option maxHeartbeats 1600000 in
theorem put_5 (w : World) (C : Phys) (lv : Value) (m : Mach) (h : Own w C lv m) (i : Inst)  (t : V) (ht : t.wf) :
    Calls Tryz.prog 179 #[.pointer (some ⟨C.b, 0, none⟩), i.val, .int .i64 5, t.val] w fun e w' => e = .returned (.tuple #[]) ∧ After C lv w (m.setR (m.r.putSeg i.reg t)) w' := by
  have hs := putIn h i t
  have hwf := h.wf.r
  clear h
  have xi := hs.i.row.cell
  have xt := hs.t.row.cell
  go_enter Tryz.func179, Tryz.ntmps179
  go_wp2_with fail
  generalize (w.alloc (.cells (instC i) 30)).alloc (.cells (valC t) 24) = W0 at *
  have HO0 := Lib.hid hs.o
  have HA0 := Lib.hid hs.a
  have HWF := Lib.hid (Regs.putSeg_wf hwf (i.reg) ht)
  have sr := hs.o.sees.r
  have c3 : W0.cell? ⟨w.heap.size, 5, none⟩ = some (.int .i64 i.reg) := hs.i.row.cell 5
  have c4 : W0.cell? ⟨w.heap.size + 1, 0, none⟩ = some (.int .u16 t.v) := hs.t.row.cell 0
  have c5 : W0.cell? ⟨w.heap.size + 1, 1, none⟩ = some (.bool t.t) := hs.t.row.cell 1
  clear hs xi xt hwf
  refine range_of (W0) ?_; intro S inst ω hin hout
  have r1 := range_regs hin sr
  have r2 := range_cell hin c3
  have r3 := range_cell hin c4
  have r4 := range_cell hin c5
  have k1 := range_call hin hout (putSeg_any m.r i.reg t)
  clear sr c4 c5
  refine wp_region_tail_range ω 11 (by kernel_rfl) (by kernel_rfl) (hout _ (Below.refl _ _).drew) ?_; simp only [List.take_succ_cons, List.take_zero, List.drop_succ_cons, List.drop_zero]
  repeat (go_big_quiet_step ((with_reducible exact k1 _)))
  refine wpQuiet_nil ?_; intro _ hw'; obtain ⟨nq, rfl⟩ := hw'
  have HO2 := Lib.hid (HO0.out.below (hin nq))
  have HA2 := Lib.hid (HA0.out.below (hin nq))
  clear r1 r3 r4 k1
  generalize ω nq = w1 at HO2 HA2 ⊢
  have sc := HO2.out.sees.c; have sf := HO2.out.sees.f; have sr := HO2.out.sees.r; have ss := HO2.out.sees.s; have sl := HO2.out.sees.l
  go_wp2_with fail
  (first | go_end0 | (((try simp only [Exit.inBlock, Exit.then]); refine bodyPost_ret (results_none rfl _ _ _) rfl ?_)))
  exact ⟨rfl, After.mk (HO2.out.putR _ HWF.out) (HA2.out.putR _)⟩

set_option maxRecDepth 100000 in
set_option maxHeartbeats 1600000 in
theorem put_16 (w : World) (C : Phys) (lv : Value) (m : Mach) (h : Own w C lv m) (i : Inst)  (t : V) (ht : t.wf) :
    Calls Tryz.prog 179 #[.pointer (some ⟨C.b, 0, none⟩), i.val, .int .i64 16, t.val] w fun e w' => e = .returned (.tuple #[]) ∧ After C lv w (m.setR (m.r.put 0 t)) w' := by
  have hs := putIn h i t
  have hwf := h.wf.r
  clear h
  have xi := hs.i.row.cell
  have xt := hs.t.row.cell
  go_enter Tryz.func179, Tryz.ntmps179
  go_wp2_with fail
  generalize (w.alloc (.cells (instC i) 30)).alloc (.cells (valC t) 24) = W0 at *
  have HO0 := Lib.hid hs.o
  have HA0 := Lib.hid hs.a
  have HWF := Lib.hid (Regs.put_wf hwf (0) ht)
  have sr := hs.o.sees.r
  have c4 : W0.cell? ⟨w.heap.size + 1, 0, none⟩ = some (.int .u16 t.v) := hs.t.row.cell 0
  have c5 : W0.cell? ⟨w.heap.size + 1, 1, none⟩ = some (.bool t.t) := hs.t.row.cell 1
  clear hs xi xt hwf
  refine range_of (W0) ?_; intro S inst ω hin hout
  have r1 := range_regs hin sr
  have r3 := range_cell hin c4
  have r4 := range_cell hin c5
  have k1 := range_call hin hout (put_any m.r 0 t)
  clear sr c4 c5
  refine wp_region_tail_range ω 9 (by kernel_rfl) (by kernel_rfl) (hout _ (Below.refl _ _).drew) ?_; simp only [List.take_succ_cons, List.take_zero, List.drop_succ_cons, List.drop_zero]
  repeat (go_big_quiet_step ((with_reducible exact k1 _)))
  refine wpQuiet_nil ?_; intro _ hw'; obtain ⟨nq, rfl⟩ := hw'
  have HO2 := Lib.hid (HO0.out.below (hin nq))
  have HA2 := Lib.hid (HA0.out.below (hin nq))
  clear r1 r3 r4 k1
  generalize ω nq = w1 at HO2 HA2 ⊢
  have sc := HO2.out.sees.c; have sf := HO2.out.sees.f; have sr := HO2.out.sees.r; have ss := HO2.out.sees.s; have sl := HO2.out.sees.l
  go_wp2_with fail
  (first | go_end0 | (((try simp only [Exit.inBlock, Exit.then]); refine bodyPost_ret (results_none rfl _ _ _) rfl ?_)))
  exact ⟨rfl, After.mk (HO2.out.putR _ HWF.out) (HA2.out.putR _)⟩

set_option maxRecDepth 100000 in
set_option maxHeartbeats 1600000 in
theorem put_22 (w : World) (C : Phys) (lv : Value) (m : Mach) (h : Own w C lv m) (i : Inst) (h0 : 0 ≤ i.op) (h1 : i.op ≤ 255) (t : V) (ht : t.wf) :
    Calls Tryz.prog 179 #[.pointer (some ⟨C.b, 0, none⟩), i.val, .int .i64 22, t.val] w fun e w' => e = .returned (.tuple #[]) ∧ After C lv w (m.setR (m.r.put (i.op % 8) t)) w' := by
  have hs := putIn h i t
  have hwf := h.wf.r
  clear h
  have xi := hs.i.row.cell
  have xt := hs.t.row.cell
  go_enter Tryz.func179, Tryz.ntmps179
  go_wp2_with fail
  generalize (w.alloc (.cells (instC i) 30)).alloc (.cells (valC t) 24) = W0 at *
  have HO0 := Lib.hid hs.o
  have HA0 := Lib.hid hs.a
  have e7 := u8_and7 i.op h0 (by omega)
  have HWF := Lib.hid (Regs.put_wf hwf ((i.op % 8)) ht)
  have sr := hs.o.sees.r
  have c3 : W0.cell? ⟨w.heap.size, 3, none⟩ = some (.int .u8 i.op) := hs.i.row.cell 3
  have c4 : W0.cell? ⟨w.heap.size + 1, 0, none⟩ = some (.int .u16 t.v) := hs.t.row.cell 0
  have c5 : W0.cell? ⟨w.heap.size + 1, 1, none⟩ = some (.bool t.t) := hs.t.row.cell 1
  clear hs xi xt hwf
  refine range_of (W0) ?_; intro S inst ω hin hout
  have r1 := range_regs hin sr
  have r2 := range_cell hin c3
  have r3 := range_cell hin c4
  have r4 := range_cell hin c5
  have k1 := range_call hin hout (put_any m.r (i.op % 8) t)
  clear sr c4 c5
  refine wp_region_tail_range ω 13 (by kernel_rfl) (by kernel_rfl) (hout _ (Below.refl _ _).drew) ?_; simp only [List.take_succ_cons, List.take_zero, List.drop_succ_cons, List.drop_zero]
  repeat (go_big_quiet_step ((with_reducible exact k1 _)))
  refine wpQuiet_nil ?_; intro _ hw'; obtain ⟨nq, rfl⟩ := hw'
  have HO2 := Lib.hid (HO0.out.below (hin nq))
  have HA2 := Lib.hid (HA0.out.below (hin nq))
  clear r1 r3 r4 k1
  generalize ω nq = w1 at HO2 HA2 ⊢
  have sc := HO2.out.sees.c; have sf := HO2.out.sees.f; have sr := HO2.out.sees.r; have ss := HO2.out.sees.s; have sl := HO2.out.sees.l
  go_wp2_with fail
  (first | go_end0 | (((try simp only [Exit.inBlock, Exit.then]); refine bodyPost_ret (results_none rfl _ _ _) rfl ?_)))
  exact ⟨rfl, After.mk (HO2.out.putR _ HWF.out) (HA2.out.putR _)⟩

set_option maxRecDepth 100000 in
set_option maxHeartbeats 1600000 in
theorem put_23 (w : World) (C : Phys) (lv : Value) (m : Mach) (h : Own w C lv m) (i : Inst) (h0 : 0 ≤ i.op) (h1 : i.op ≤ 255) (t : V) (ht : t.wf) :
    Calls Tryz.prog 179 #[.pointer (some ⟨C.b, 0, none⟩), i.val, .int .i64 23, t.val] w fun e w' => e = .returned (.tuple #[]) ∧ After C lv w (m.setR (m.r.putSeg (i.op / 8 % 4) t)) w' := by
  have hs := putIn h i t
  have hwf := h.wf.r
  clear h
  have xi := hs.i.row.cell
  have xt := hs.t.row.cell
  go_enter Tryz.func179, Tryz.ntmps179
  go_wp2_with fail
  generalize (w.alloc (.cells (instC i) 30)).alloc (.cells (valC t) 24) = W0 at *
  have HO0 := Lib.hid hs.o
  have HA0 := Lib.hid hs.a
  have e3 := op_seg i.op h0 h1
  have HWF := Lib.hid (Regs.putSeg_wf hwf ((i.op / 8 % 4)) ht)
  have sr := hs.o.sees.r
  have c3 : W0.cell? ⟨w.heap.size, 3, none⟩ = some (.int .u8 i.op) := hs.i.row.cell 3
  have c4 : W0.cell? ⟨w.heap.size + 1, 0, none⟩ = some (.int .u16 t.v) := hs.t.row.cell 0
  have c5 : W0.cell? ⟨w.heap.size + 1, 1, none⟩ = some (.bool t.t) := hs.t.row.cell 1
  clear hs xi xt hwf
  refine range_of (W0) ?_; intro S inst ω hin hout
  have r1 := range_regs hin sr
  have r2 := range_cell hin c3
  have r3 := range_cell hin c4
  have r4 := range_cell hin c5
  have k1 := range_call hin hout (putSeg_any m.r (i.op / 8 % 4) t)
  clear sr c4 c5
  refine wp_region_tail_range ω 14 (by kernel_rfl) (by kernel_rfl) (hout _ (Below.refl _ _).drew) ?_; simp only [List.take_succ_cons, List.take_zero, List.drop_succ_cons, List.drop_zero]
  repeat (go_big_quiet_step ((with_reducible exact k1 _)))
  refine wpQuiet_nil ?_; intro _ hw'; obtain ⟨nq, rfl⟩ := hw'
  have HO2 := Lib.hid (HO0.out.below (hin nq))
  have HA2 := Lib.hid (HA0.out.below (hin nq))
  clear r1 r3 r4 k1
  generalize ω nq = w1 at HO2 HA2 ⊢
  have sc := HO2.out.sees.c; have sf := HO2.out.sees.f; have sr := HO2.out.sees.r; have ss := HO2.out.sees.s; have sl := HO2.out.sees.l
  go_wp2_with fail
  (first | go_end0 | (((try simp only [Exit.inBlock, Exit.then]); refine bodyPost_ret (results_none rfl _ _ _) rfl ?_)))
  exact ⟨rfl, After.mk (HO2.out.putR _ HWF.out) (HA2.out.putR _)⟩

/-- An operand has another value, of one that is no place in memory. -/
theorem putBare_any (w : World) (C : Phys) (lv : Value) (m : Mach) (h : Own w C lv m) (i : Inst) (h0 : 0 ≤ i.op) (h1 : i.op ≤ 255) (op : Int) (ho : (1 ≤ op ∧ op ≤ 5) ∨ op = 14 ∨ op = 16 ∨ (21 ≤ op ∧ op ≤ 23)) (hm : op ≤ 2 → i.mod = 3) (t : V) (ht : t.wf) :
    Calls Tryz.prog 179 #[.pointer (some ⟨C.b, 0, none⟩), i.val, .int .i64 op, t.val] w fun e w' => e = .returned (.tuple #[]) ∧ After C lv w (m.putV i op t) w' := by
  have hc : op = 1 ∨ op = 2 ∨ op = 3 ∨ op = 4 ∨ op = 5 ∨ op = 14 ∨ op = 16 ∨ op = 21 ∨ op = 22 ∨ op = 23 := by omega
  rcases hc with rfl | rfl | rfl | rfl | rfl | rfl | rfl | rfl | rfl | rfl
  · have e := hm (by decide)
    rw [show m.putV i 1 t = m.setRegByte i.rm t.v from if_pos e]
    exact put_1 w C lv m h i (by rw [e]; rfl) t ht
  · have e := hm (by decide)
    rw [show m.putV i 2 t = m.setR (m.r.put i.rm t) from if_pos e]
    exact put_2 w C lv m h i (by rw [e]; rfl) t ht
  · exact put_3 w C lv m h i t ht
  · exact put_4 w C lv m h i t ht
  · exact put_5 w C lv m h i t ht
  · exact put_14 w C lv m h i t ht
  · exact put_16 w C lv m h i t ht
  · exact put_21 w C lv m h i h0 h1 t ht
  · exact put_22 w C lv m h i h0 h1 t ht
  · exact put_23 w C lv m h i h0 h1 t ht
end Go.Proofs.YtcglkefaopgjeaaGreatDoor
