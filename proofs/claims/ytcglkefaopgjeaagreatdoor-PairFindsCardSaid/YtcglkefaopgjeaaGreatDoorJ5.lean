/- Package core: Get, of operands that are no places in memory. -/
import Derived.Test.YtcglkefaopgjeaaGreatDoorJ4
namespace Go.Proofs.YtcglkefaopgjeaaGreatDoor
set_option linter.unusedSimpArgs false
set_option linter.unusedVariables false
open Go.RowKit

/-- The boxes that Get begins with. -/
structure GetIn (C : Phys) (lv : Value) (w : World) (m : Mach) (i : Inst) (t : V) (W0 : World) : Prop where
  o : Own W0 C lv m
  a : Acc C lv w lv W0
  i : Box C lv W0 w.heap.size (instC i) 30
  t : Box C lv W0 (w.heap.size + 1) (valC t) 24
  x : Box C lv W0 (w.heap.size + 1 + 1) #[.int .u16 0, .bool false] 24
theorem getIn {C : Phys} {lv : Value} {w : World} {m : Mach} (h : Own w C lv m) (i : Inst) (t : V) : GetIn C lv w m i t (((w.alloc (.cells (instC i) 30)).alloc (.cells (valC t) 24)).alloc (.cells #[.int .u16 0, .bool false] 24)) := by
  have o1 := h.alloc (.cells (instC i) 30)
  have o2 := o1.alloc (.cells (valC t) 24)
  have x2 := Box.new o1 (valC t) 24
  have x3 := Box.new o2 #[.int .u16 0, .bool false] 24
  rw [World.size_alloc] at x2
  rw [World.size_alloc, World.size_alloc] at x3
  exact ⟨o2.alloc _, (((Acc.refl C lv w).alloc _).alloc _).alloc _, ((Box.new h _ _).alloc _).alloc _, x2.alloc _, x3⟩

set_option maxRecDepth 100000 in
set_option maxHeartbeats 1600000 in
theorem get_1 (w : World) (C : Phys) (lv : Value) (m : Mach) (h : Own w C lv m) (i : Inst) (he : (i.mod == 3) = true) (t : V) :
    Calls Tryz.prog 66 #[.pointer (some ⟨C.b, 0, none⟩), i.val, .int .i64 1, t.val] w fun e w' => e = .returned (V.val ⟨m.r.byteV i.rm, false⟩) ∧ After C lv w (m.regByteM i.rm) w' := by
  have hs := getIn h i t
  have H := Lib.hid h
  clear h
  have xi := hs.i.row.cell
  have xt := hs.t.row.cell
  go_enter Tryz.func66, Tryz.ntmps66
  go_wp2_with fail
  generalize ((w.alloc (.cells (instC i) 30)).alloc (.cells (valC t) 24)).alloc (.cells #[.int .u16 0, .bool false] 24) = W0 at *
  have HO0 := Lib.hid hs.o
  have HA0 := Lib.hid hs.a
  have HX0 := Lib.hid hs.x
  clear hs xi xt
  refine (regByte_any _ _ _ _ HO0.out i.rm).mono ?_
  rintro e w2 ⟨rfl, lv2, h2, f2, k2⟩; dsimp only
  have HO2 := Lib.hid h2
  have HA2 := Lib.hid (HA0.out.trans ⟨f2, k2⟩)
  have HX2 := Lib.hid (HX0.out.step f2 k2)
  clear h2 f2 k2
  have x1 := HX2.out.row.cell
  have x2 := HX2.out.row.frozen
  have x3 := HX2.out.row.lt
  go_wp2_with fail
  refine bodyPost_ret (results_row rfl _ _ _ _ _ _ rfl (row_s2 HX2.out.row) Tryz.underlying24 rfl (by kernel_rfl)) rfl ⟨rfl, ?_⟩
  exact After.boxed H.out HO2.out HA2.out HX2.out (by omega) _ _

set_option maxRecDepth 100000 in
set_option maxHeartbeats 1600000 in
theorem get_3 (w : World) (C : Phys) (lv : Value) (m : Mach) (h : Own w C lv m) (i : Inst)  (t : V) :
    Calls Tryz.prog 66 #[.pointer (some ⟨C.b, 0, none⟩), i.val, .int .i64 3, t.val] w fun e w' => e = .returned (V.val ⟨m.r.byteV i.reg, false⟩) ∧ After C lv w (m.regByteM i.reg) w' := by
  have hs := getIn h i t
  have H := Lib.hid h
  clear h
  have xi := hs.i.row.cell
  have xt := hs.t.row.cell
  go_enter Tryz.func66, Tryz.ntmps66
  go_wp2_with fail
  generalize ((w.alloc (.cells (instC i) 30)).alloc (.cells (valC t) 24)).alloc (.cells #[.int .u16 0, .bool false] 24) = W0 at *
  have HO0 := Lib.hid hs.o
  have HA0 := Lib.hid hs.a
  have HX0 := Lib.hid hs.x
  clear hs xi xt
  refine (regByte_any _ _ _ _ HO0.out i.reg).mono ?_
  rintro e w2 ⟨rfl, lv2, h2, f2, k2⟩; dsimp only
  have HO2 := Lib.hid h2
  have HA2 := Lib.hid (HA0.out.trans ⟨f2, k2⟩)
  have HX2 := Lib.hid (HX0.out.step f2 k2)
  clear h2 f2 k2
  have x1 := HX2.out.row.cell
  have x2 := HX2.out.row.frozen
  have x3 := HX2.out.row.lt
  go_wp2_with fail
  refine bodyPost_ret (results_row rfl _ _ _ _ _ _ rfl (row_s2 HX2.out.row) Tryz.underlying24 rfl (by kernel_rfl)) rfl ⟨rfl, ?_⟩
  exact After.boxed H.out HO2.out HA2.out HX2.out (by omega) _ _

set_option maxRecDepth 100000 in
set_option maxHeartbeats 1600000 in
theorem get_2 (w : World) (C : Phys) (lv : Value) (m : Mach) (h : Own w C lv m) (i : Inst) (he : (i.mod == 3) = true) (t : V) :
    Calls Tryz.prog 66 #[.pointer (some ⟨C.b, 0, none⟩), i.val, .int .i64 2, t.val] w fun e w' => e = .returned (V.val (m.r.get i.rm)) ∧ After C lv w m w' := by
  have hs := getIn h i t
  have H := Lib.hid h
  clear h
  have xi := hs.i.row.cell
  have xt := hs.t.row.cell
  go_enter Tryz.func66, Tryz.ntmps66
  go_wp2_with fail
  generalize ((w.alloc (.cells (instC i) 30)).alloc (.cells (valC t) 24)).alloc (.cells #[.int .u16 0, .bool false] 24) = W0 at *
  have HO0 := Lib.hid hs.o
  have HA0 := Lib.hid hs.a
  have HX0 := Lib.hid hs.x
  have sr := hs.o.sees.r
  have c3 : W0.cell? ⟨w.heap.size, 6, none⟩ = some (.int .i64 i.rm) := hs.i.row.cell 6
  clear hs xi xt
  refine range_of (W0) ?_; intro S inst ω hin hout
  have r1 := range_regs hin sr
  have r2 := range_cell hin c3
  have k1 := range_call hin hout (get_any m.r i.rm)
  clear sr c3
  refine wp_region_tail_range ω 7 (by kernel_rfl) (by kernel_rfl) (hout _ (Below.refl _ _).drew) ?_; simp only [List.take_succ_cons, List.take_zero, List.drop_succ_cons, List.drop_zero]
  repeat (go_big_quiet_step ((with_reducible exact k1 _)))
  refine wpQuiet_nil ?_; intro _ hw'; obtain ⟨nq, rfl⟩ := hw'
  have HO2 := Lib.hid (HO0.out.below (hin nq))
  have HA2 := Lib.hid (HA0.out.below (hin nq))
  have HX2 := Lib.hid (HX0.out.below (hin nq))
  clear r1 r2 k1
  generalize ω nq = w1 at HO2 HA2 HX2 ⊢
  have x1 := HX2.out.row.cell
  have x2 := HX2.out.row.frozen
  have x3 := HX2.out.row.lt
  go_wp2_with fail
  refine bodyPost_ret (results_row rfl _ _ _ _ _ _ rfl (row_s2 HX2.out.row) Tryz.underlying24 rfl (by kernel_rfl)) rfl ⟨rfl, ?_⟩
  exact After.boxed H.out HO2.out HA2.out HX2.out (by omega) _ _

set_option maxRecDepth 100000 in
set_option maxHeartbeats 1600000 in
theorem get_4 (w : World) (C : Phys) (lv : Value) (m : Mach) (h : Own w C lv m) (i : Inst)  (t : V) :
    Calls Tryz.prog 66 #[.pointer (some ⟨C.b, 0, none⟩), i.val, .int .i64 4, t.val] w fun e w' => e = .returned (V.val (m.r.get i.reg)) ∧ After C lv w m w' := by
  have hs := getIn h i t
  have H := Lib.hid h
  clear h
  have xi := hs.i.row.cell
  have xt := hs.t.row.cell
  go_enter Tryz.func66, Tryz.ntmps66
  go_wp2_with fail
  generalize ((w.alloc (.cells (instC i) 30)).alloc (.cells (valC t) 24)).alloc (.cells #[.int .u16 0, .bool false] 24) = W0 at *
  have HO0 := Lib.hid hs.o
  have HA0 := Lib.hid hs.a
  have HX0 := Lib.hid hs.x
  have sr := hs.o.sees.r
  have c3 : W0.cell? ⟨w.heap.size, 5, none⟩ = some (.int .i64 i.reg) := hs.i.row.cell 5
  clear hs xi xt
  refine range_of (W0) ?_; intro S inst ω hin hout
  have r1 := range_regs hin sr
  have r2 := range_cell hin c3
  have k1 := range_call hin hout (get_any m.r i.reg)
  clear sr c3
  refine wp_region_tail_range ω 7 (by kernel_rfl) (by kernel_rfl) (hout _ (Below.refl _ _).drew) ?_; simp only [List.take_succ_cons, List.take_zero, List.drop_succ_cons, List.drop_zero]
  repeat (go_big_quiet_step ((with_reducible exact k1 _)))
  refine wpQuiet_nil ?_; intro _ hw'; obtain ⟨nq, rfl⟩ := hw'
  have HO2 := Lib.hid (HO0.out.below (hin nq))
  have HA2 := Lib.hid (HA0.out.below (hin nq))
  have HX2 := Lib.hid (HX0.out.below (hin nq))
  clear r1 r2 k1
  generalize ω nq = w1 at HO2 HA2 HX2 ⊢
  have x1 := HX2.out.row.cell
  have x2 := HX2.out.row.frozen
  have x3 := HX2.out.row.lt
  go_wp2_with fail
  refine bodyPost_ret (results_row rfl _ _ _ _ _ _ rfl (row_s2 HX2.out.row) Tryz.underlying24 rfl (by kernel_rfl)) rfl ⟨rfl, ?_⟩
  exact After.boxed H.out HO2.out HA2.out HX2.out (by omega) _ _

set_option maxRecDepth 100000 in
set_option maxHeartbeats 1600000 in
theorem get_5 (w : World) (C : Phys) (lv : Value) (m : Mach) (h : Own w C lv m) (i : Inst)  (t : V) :
    Calls Tryz.prog 66 #[.pointer (some ⟨C.b, 0, none⟩), i.val, .int .i64 5, t.val] w fun e w' => e = .returned (V.val (m.r.seg i.reg)) ∧ After C lv w m w' := by
  have hs := getIn h i t
  have H := Lib.hid h
  clear h
  have xi := hs.i.row.cell
  have xt := hs.t.row.cell
  go_enter Tryz.func66, Tryz.ntmps66
  go_wp2_with fail
  generalize ((w.alloc (.cells (instC i) 30)).alloc (.cells (valC t) 24)).alloc (.cells #[.int .u16 0, .bool false] 24) = W0 at *
  have HO0 := Lib.hid hs.o
  have HA0 := Lib.hid hs.a
  have HX0 := Lib.hid hs.x
  have sr := hs.o.sees.r
  have c3 : W0.cell? ⟨w.heap.size, 5, none⟩ = some (.int .i64 i.reg) := hs.i.row.cell 5
  clear hs xi xt
  refine range_of (W0) ?_; intro S inst ω hin hout
  have r1 := range_regs hin sr
  have r2 := range_cell hin c3
  have k1 := range_call hin hout (seg_any m.r i.reg)
  clear sr c3
  refine wp_region_tail_range ω 7 (by kernel_rfl) (by kernel_rfl) (hout _ (Below.refl _ _).drew) ?_; simp only [List.take_succ_cons, List.take_zero, List.drop_succ_cons, List.drop_zero]
  repeat (go_big_quiet_step ((with_reducible exact k1 _)))
  refine wpQuiet_nil ?_; intro _ hw'; obtain ⟨nq, rfl⟩ := hw'
  have HO2 := Lib.hid (HO0.out.below (hin nq))
  have HA2 := Lib.hid (HA0.out.below (hin nq))
  have HX2 := Lib.hid (HX0.out.below (hin nq))
  clear r1 r2 k1
  generalize ω nq = w1 at HO2 HA2 HX2 ⊢
  have x1 := HX2.out.row.cell
  have x2 := HX2.out.row.frozen
  have x3 := HX2.out.row.lt
  go_wp2_with fail
  refine bodyPost_ret (results_row rfl _ _ _ _ _ _ rfl (row_s2 HX2.out.row) Tryz.underlying24 rfl (by kernel_rfl)) rfl ⟨rfl, ?_⟩
  exact After.boxed H.out HO2.out HA2.out HX2.out (by omega) _ _

set_option maxRecDepth 100000 in
set_option maxHeartbeats 1600000 in
theorem get_6 (w : World) (C : Phys) (lv : Value) (m : Mach) (h : Own w C lv m) (i : Inst)  (t : V) :
    Calls Tryz.prog 66 #[.pointer (some ⟨C.b, 0, none⟩), i.val, .int .i64 6, t.val] w fun e w' => e = .returned (V.val t) ∧ After C lv w m w' := by
  have hs := getIn h i t
  have H := Lib.hid h
  clear h
  clear hs
  go_enter Tryz.func66, Tryz.ntmps66
  go_wp2_with fail
  refine bodyPost_ret (results_row rfl _ _ _ _ _ _ rfl (Row.new' (by simp)) Tryz.underlying24 rfl (by kernel_rfl)) rfl ⟨rfl, ?_⟩
  exact After.mk (((H.out.alloc _).alloc _).alloc _) ((((Acc.refl C lv w).alloc _).alloc _).alloc _)

set_option maxRecDepth 100000 in
set_option maxHeartbeats 1600000 in
theorem get_7 (w : World) (C : Phys) (lv : Value) (m : Mach) (h : Own w C lv m) (i : Inst)  (t : V) :
    Calls Tryz.prog 66 #[.pointer (some ⟨C.b, 0, none⟩), i.val, .int .i64 7, t.val] w fun e w' => e = .returned (V.val t) ∧ After C lv w m w' := by
  have hs := getIn h i t
  have H := Lib.hid h
  clear h
  clear hs
  go_enter Tryz.func66, Tryz.ntmps66
  go_wp2_with fail
  refine bodyPost_ret (results_row rfl _ _ _ _ _ _ rfl (Row.new' (by simp)) Tryz.underlying24 rfl (by kernel_rfl)) rfl ⟨rfl, ?_⟩
  exact After.mk (((H.out.alloc _).alloc _).alloc _) ((((Acc.refl C lv w).alloc _).alloc _).alloc _)

set_option maxRecDepth 100000 in
set_option maxHeartbeats 1600000 in
theorem get_8 (w : World) (C : Phys) (lv : Value) (m : Mach) (h : Own w C lv m) (i : Inst)  (t : V) :
    Calls Tryz.prog 66 #[.pointer (some ⟨C.b, 0, none⟩), i.val, .int .i64 8, t.val] w fun e w' => e = .returned (V.val t) ∧ After C lv w m w' := by
  have hs := getIn h i t
  have H := Lib.hid h
  clear h
  clear hs
  go_enter Tryz.func66, Tryz.ntmps66
  go_wp2_with fail
  refine bodyPost_ret (results_row rfl _ _ _ _ _ _ rfl (Row.new' (by simp)) Tryz.underlying24 rfl (by kernel_rfl)) rfl ⟨rfl, ?_⟩
  exact After.mk (((H.out.alloc _).alloc _).alloc _) ((((Acc.refl C lv w).alloc _).alloc _).alloc _)

set_option maxRecDepth 100000 in
set_option maxHeartbeats 1600000 in
theorem get_14 (w : World) (C : Phys) (lv : Value) (m : Mach) (h : Own w C lv m) (i : Inst) (h0 : 0 ≤ i.op) (h1 : i.op ≤ 255) (t : V) :
    Calls Tryz.prog 66 #[.pointer (some ⟨C.b, 0, none⟩), i.val, .int .i64 14, t.val] w fun e w' => e = .returned (V.val ⟨m.r.byteV 0, false⟩) ∧ After C lv w (m.regByteM 0) w' := by
  have hs := getIn h i t
  have H := Lib.hid h
  clear h
  have xi := hs.i.row.cell
  have xt := hs.t.row.cell
  go_enter Tryz.func66, Tryz.ntmps66
  go_wp2_with fail
  generalize ((w.alloc (.cells (instC i) 30)).alloc (.cells (valC t) 24)).alloc (.cells #[.int .u16 0, .bool false] 24) = W0 at *
  have HO0 := Lib.hid hs.o
  have HA0 := Lib.hid hs.a
  have HX0 := Lib.hid hs.x
  clear hs xi xt
  refine (small_14 _ _ _ _ HO0.out i h0 h1).mono ?_
  rintro e w2 ⟨rfl, lv2, h2, f2, k2⟩; dsimp only
  have HO2 := Lib.hid h2
  have HA2 := Lib.hid (HA0.out.trans ⟨f2, k2⟩)
  have HX2 := Lib.hid (HX0.out.step f2 k2)
  clear h2 f2 k2
  have x1 := HX2.out.row.cell
  have x2 := HX2.out.row.frozen
  have x3 := HX2.out.row.lt
  go_wp2_with fail
  refine bodyPost_ret (results_row rfl _ _ _ _ _ _ rfl (row_s2 HX2.out.row) Tryz.underlying24 rfl (by kernel_rfl)) rfl ⟨rfl, ?_⟩
  exact After.boxed H.out HO2.out HA2.out HX2.out (by omega) _ _

set_option maxRecDepth 100000 in
set_option maxHeartbeats 1600000 in
theorem get_15 (w : World) (C : Phys) (lv : Value) (m : Mach) (h : Own w C lv m) (i : Inst) (h0 : 0 ≤ i.op) (h1 : i.op ≤ 255) (t : V) :
    Calls Tryz.prog 66 #[.pointer (some ⟨C.b, 0, none⟩), i.val, .int .i64 15, t.val] w fun e w' => e = .returned (V.val ⟨m.r.byteV 1, false⟩) ∧ After C lv w (m.regByteM 1) w' := by
  have hs := getIn h i t
  have H := Lib.hid h
  clear h
  have xi := hs.i.row.cell
  have xt := hs.t.row.cell
  go_enter Tryz.func66, Tryz.ntmps66
  go_wp2_with fail
  generalize ((w.alloc (.cells (instC i) 30)).alloc (.cells (valC t) 24)).alloc (.cells #[.int .u16 0, .bool false] 24) = W0 at *
  have HO0 := Lib.hid hs.o
  have HA0 := Lib.hid hs.a
  have HX0 := Lib.hid hs.x
  clear hs xi xt
  refine (small_15 _ _ _ _ HO0.out i h0 h1).mono ?_
  rintro e w2 ⟨rfl, lv2, h2, f2, k2⟩; dsimp only
  have HO2 := Lib.hid h2
  have HA2 := Lib.hid (HA0.out.trans ⟨f2, k2⟩)
  have HX2 := Lib.hid (HX0.out.step f2 k2)
  clear h2 f2 k2
  have x1 := HX2.out.row.cell
  have x2 := HX2.out.row.frozen
  have x3 := HX2.out.row.lt
  go_wp2_with fail
  refine bodyPost_ret (results_row rfl _ _ _ _ _ _ rfl (row_s2 HX2.out.row) Tryz.underlying24 rfl (by kernel_rfl)) rfl ⟨rfl, ?_⟩
  exact After.boxed H.out HO2.out HA2.out HX2.out (by omega) _ _

set_option maxRecDepth 100000 in
set_option maxHeartbeats 1600000 in
theorem get_16 (w : World) (C : Phys) (lv : Value) (m : Mach) (h : Own w C lv m) (i : Inst) (h0 : 0 ≤ i.op) (h1 : i.op ≤ 255) (t : V) :
    Calls Tryz.prog 66 #[.pointer (some ⟨C.b, 0, none⟩), i.val, .int .i64 16, t.val] w fun e w' => e = .returned (V.val m.r.g0) ∧ After C lv w m w' := by
  have hs := getIn h i t
  have H := Lib.hid h
  clear h
  have xi := hs.i.row.cell
  have xt := hs.t.row.cell
  go_enter Tryz.func66, Tryz.ntmps66
  go_wp2_with fail
  generalize ((w.alloc (.cells (instC i) 30)).alloc (.cells (valC t) 24)).alloc (.cells #[.int .u16 0, .bool false] 24) = W0 at *
  have HO0 := Lib.hid hs.o
  have HA0 := Lib.hid hs.a
  have HX0 := Lib.hid hs.x
  clear hs xi xt
  refine (small_16 _ _ _ _ HO0.out i h0 h1).mono ?_
  rintro e w2 ⟨rfl, lv2, h2, f2, k2⟩; dsimp only
  have HO2 := Lib.hid h2
  have HA2 := Lib.hid (HA0.out.trans ⟨f2, k2⟩)
  have HX2 := Lib.hid (HX0.out.step f2 k2)
  clear h2 f2 k2
  have x1 := HX2.out.row.cell
  have x2 := HX2.out.row.frozen
  have x3 := HX2.out.row.lt
  go_wp2_with fail
  refine bodyPost_ret (results_row rfl _ _ _ _ _ _ rfl (row_s2 HX2.out.row) Tryz.underlying24 rfl (by kernel_rfl)) rfl ⟨rfl, ?_⟩
  exact After.boxed H.out HO2.out HA2.out HX2.out (by omega) _ _

set_option maxRecDepth 100000 in
set_option maxHeartbeats 1600000 in
theorem get_17 (w : World) (C : Phys) (lv : Value) (m : Mach) (h : Own w C lv m) (i : Inst) (h0 : 0 ≤ i.op) (h1 : i.op ≤ 255) (t : V) :
    Calls Tryz.prog 66 #[.pointer (some ⟨C.b, 0, none⟩), i.val, .int .i64 17, t.val] w fun e w' => e = .returned (V.val m.r.g2) ∧ After C lv w m w' := by
  have hs := getIn h i t
  have H := Lib.hid h
  clear h
  have xi := hs.i.row.cell
  have xt := hs.t.row.cell
  go_enter Tryz.func66, Tryz.ntmps66
  go_wp2_with fail
  generalize ((w.alloc (.cells (instC i) 30)).alloc (.cells (valC t) 24)).alloc (.cells #[.int .u16 0, .bool false] 24) = W0 at *
  have HO0 := Lib.hid hs.o
  have HA0 := Lib.hid hs.a
  have HX0 := Lib.hid hs.x
  clear hs xi xt
  refine (small_17 _ _ _ _ HO0.out i h0 h1).mono ?_
  rintro e w2 ⟨rfl, lv2, h2, f2, k2⟩; dsimp only
  have HO2 := Lib.hid h2
  have HA2 := Lib.hid (HA0.out.trans ⟨f2, k2⟩)
  have HX2 := Lib.hid (HX0.out.step f2 k2)
  clear h2 f2 k2
  have x1 := HX2.out.row.cell
  have x2 := HX2.out.row.frozen
  have x3 := HX2.out.row.lt
  go_wp2_with fail
  refine bodyPost_ret (results_row rfl _ _ _ _ _ _ rfl (row_s2 HX2.out.row) Tryz.underlying24 rfl (by kernel_rfl)) rfl ⟨rfl, ?_⟩
  exact After.boxed H.out HO2.out HA2.out HX2.out (by omega) _ _

set_option maxRecDepth 100000 in
set_option maxHeartbeats 1600000 in
theorem get_18 (w : World) (C : Phys) (lv : Value) (m : Mach) (h : Own w C lv m) (i : Inst) (h0 : 0 ≤ i.op) (h1 : i.op ≤ 255) (t : V) :
    Calls Tryz.prog 66 #[.pointer (some ⟨C.b, 0, none⟩), i.val, .int .i64 18, t.val] w fun e w' => e = .returned (V.val ⟨1, false⟩) ∧ After C lv w m w' := by
  have hs := getIn h i t
  have H := Lib.hid h
  clear h
  have xi := hs.i.row.cell
  have xt := hs.t.row.cell
  go_enter Tryz.func66, Tryz.ntmps66
  go_wp2_with fail
  generalize ((w.alloc (.cells (instC i) 30)).alloc (.cells (valC t) 24)).alloc (.cells #[.int .u16 0, .bool false] 24) = W0 at *
  have HO0 := Lib.hid hs.o
  have HA0 := Lib.hid hs.a
  have HX0 := Lib.hid hs.x
  clear hs xi xt
  refine (small_18 _ _ _ _ HO0.out i h0 h1).mono ?_
  rintro e w2 ⟨rfl, lv2, h2, f2, k2⟩; dsimp only
  have HO2 := Lib.hid h2
  have HA2 := Lib.hid (HA0.out.trans ⟨f2, k2⟩)
  have HX2 := Lib.hid (HX0.out.step f2 k2)
  clear h2 f2 k2
  have x1 := HX2.out.row.cell
  have x2 := HX2.out.row.frozen
  have x3 := HX2.out.row.lt
  go_wp2_with fail
  refine bodyPost_ret (results_row rfl _ _ _ _ _ _ rfl (row_s2 HX2.out.row) Tryz.underlying24 rfl (by kernel_rfl)) rfl ⟨rfl, ?_⟩
  exact After.boxed H.out HO2.out HA2.out HX2.out (by omega) _ _

set_option maxRecDepth 100000 in
set_option maxHeartbeats 1600000 in
theorem get_24 (w : World) (C : Phys) (lv : Value) (m : Mach) (h : Own w C lv m) (i : Inst) (h0 : 0 ≤ i.op) (h1 : i.op ≤ 255) (t : V) :
    Calls Tryz.prog 66 #[.pointer (some ⟨C.b, 0, none⟩), i.val, .int .i64 24, t.val] w fun e w' => e = .returned (V.val ⟨3, false⟩) ∧ After C lv w m w' := by
  have hs := getIn h i t
  have H := Lib.hid h
  clear h
  have xi := hs.i.row.cell
  have xt := hs.t.row.cell
  go_enter Tryz.func66, Tryz.ntmps66
  go_wp2_with fail
  generalize ((w.alloc (.cells (instC i) 30)).alloc (.cells (valC t) 24)).alloc (.cells #[.int .u16 0, .bool false] 24) = W0 at *
  have HO0 := Lib.hid hs.o
  have HA0 := Lib.hid hs.a
  have HX0 := Lib.hid hs.x
  clear hs xi xt
  refine (small_24 _ _ _ _ HO0.out i h0 h1).mono ?_
  rintro e w2 ⟨rfl, lv2, h2, f2, k2⟩; dsimp only
  have HO2 := Lib.hid h2
  have HA2 := Lib.hid (HA0.out.trans ⟨f2, k2⟩)
  have HX2 := Lib.hid (HX0.out.step f2 k2)
  clear h2 f2 k2
  have x1 := HX2.out.row.cell
  have x2 := HX2.out.row.frozen
  have x3 := HX2.out.row.lt
  go_wp2_with fail
  refine bodyPost_ret (results_row rfl _ _ _ _ _ _ rfl (row_s2 HX2.out.row) Tryz.underlying24 rfl (by kernel_rfl)) rfl ⟨rfl, ?_⟩
  exact After.boxed H.out HO2.out HA2.out HX2.out (by omega) _ _

set_option maxRecDepth 100000 in
set_option maxHeartbeats 1600000 in
theorem get_21 (w : World) (C : Phys) (lv : Value) (m : Mach) (h : Own w C lv m) (i : Inst) (h0 : 0 ≤ i.op) (h1 : i.op ≤ 255) (t : V) :
    Calls Tryz.prog 66 #[.pointer (some ⟨C.b, 0, none⟩), i.val, .int .i64 21, t.val] w fun e w' => e = .returned (V.val ⟨m.r.byteV (i.op % 8), false⟩) ∧ After C lv w (m.regByteM (i.op % 8)) w' := by
  have hs := getIn h i t
  have H := Lib.hid h
  clear h
  have xi := hs.i.row.cell
  have xt := hs.t.row.cell
  go_enter Tryz.func66, Tryz.ntmps66
  go_wp2_with fail
  generalize ((w.alloc (.cells (instC i) 30)).alloc (.cells (valC t) 24)).alloc (.cells #[.int .u16 0, .bool false] 24) = W0 at *
  have HO0 := Lib.hid hs.o
  have HA0 := Lib.hid hs.a
  have HX0 := Lib.hid hs.x
  clear hs xi xt
  refine (small_21 _ _ _ _ HO0.out i h0 h1).mono ?_
  rintro e w2 ⟨rfl, lv2, h2, f2, k2⟩; dsimp only
  have HO2 := Lib.hid h2
  have HA2 := Lib.hid (HA0.out.trans ⟨f2, k2⟩)
  have HX2 := Lib.hid (HX0.out.step f2 k2)
  clear h2 f2 k2
  have x1 := HX2.out.row.cell
  have x2 := HX2.out.row.frozen
  have x3 := HX2.out.row.lt
  go_wp2_with fail
  refine bodyPost_ret (results_row rfl _ _ _ _ _ _ rfl (row_s2 HX2.out.row) Tryz.underlying24 rfl (by kernel_rfl)) rfl ⟨rfl, ?_⟩
  exact After.boxed H.out HO2.out HA2.out HX2.out (by omega) _ _

set_option maxRecDepth 100000 in
set_option maxHeartbeats 1600000 in
theorem get_22 (w : World) (C : Phys) (lv : Value) (m : Mach) (h : Own w C lv m) (i : Inst) (h0 : 0 ≤ i.op) (h1 : i.op ≤ 255) (t : V) :
    Calls Tryz.prog 66 #[.pointer (some ⟨C.b, 0, none⟩), i.val, .int .i64 22, t.val] w fun e w' => e = .returned (V.val (m.r.get (i.op % 8))) ∧ After C lv w m w' := by
  have hs := getIn h i t
  have H := Lib.hid h
  clear h
  have xi := hs.i.row.cell
  have xt := hs.t.row.cell
  go_enter Tryz.func66, Tryz.ntmps66
  go_wp2_with fail
  generalize ((w.alloc (.cells (instC i) 30)).alloc (.cells (valC t) 24)).alloc (.cells #[.int .u16 0, .bool false] 24) = W0 at *
  have HO0 := Lib.hid hs.o
  have HA0 := Lib.hid hs.a
  have HX0 := Lib.hid hs.x
  clear hs xi xt
  refine (small_22 _ _ _ _ HO0.out i h0 h1).mono ?_
  rintro e w2 ⟨rfl, lv2, h2, f2, k2⟩; dsimp only
  have HO2 := Lib.hid h2
  have HA2 := Lib.hid (HA0.out.trans ⟨f2, k2⟩)
  have HX2 := Lib.hid (HX0.out.step f2 k2)
  clear h2 f2 k2
  have x1 := HX2.out.row.cell
  have x2 := HX2.out.row.frozen
  have x3 := HX2.out.row.lt
  go_wp2_with fail
  refine bodyPost_ret (results_row rfl _ _ _ _ _ _ rfl (row_s2 HX2.out.row) Tryz.underlying24 rfl (by kernel_rfl)) rfl ⟨rfl, ?_⟩
  exact After.boxed H.out HO2.out HA2.out HX2.out (by omega) _ _

set_option maxRecDepth 100000 in
set_option maxHeartbeats 1600000 in
theorem get_23 (w : World) (C : Phys) (lv : Value) (m : Mach) (h : Own w C lv m) (i : Inst) (h0 : 0 ≤ i.op) (h1 : i.op ≤ 255) (t : V) :
    Calls Tryz.prog 66 #[.pointer (some ⟨C.b, 0, none⟩), i.val, .int .i64 23, t.val] w fun e w' => e = .returned (V.val (m.r.seg (i.op / 8 % 4))) ∧ After C lv w m w' := by
  have hs := getIn h i t
  have H := Lib.hid h
  clear h
  have xi := hs.i.row.cell
  have xt := hs.t.row.cell
  go_enter Tryz.func66, Tryz.ntmps66
  go_wp2_with fail
  generalize ((w.alloc (.cells (instC i) 30)).alloc (.cells (valC t) 24)).alloc (.cells #[.int .u16 0, .bool false] 24) = W0 at *
  have HO0 := Lib.hid hs.o
  have HA0 := Lib.hid hs.a
  have HX0 := Lib.hid hs.x
  clear hs xi xt
  refine (small_23 _ _ _ _ HO0.out i h0 h1).mono ?_
  rintro e w2 ⟨rfl, lv2, h2, f2, k2⟩; dsimp only
  have HO2 := Lib.hid h2
  have HA2 := Lib.hid (HA0.out.trans ⟨f2, k2⟩)
  have HX2 := Lib.hid (HX0.out.step f2 k2)
  clear h2 f2 k2
  have x1 := HX2.out.row.cell
  have x2 := HX2.out.row.frozen
  have x3 := HX2.out.row.lt
  go_wp2_with fail
  refine bodyPost_ret (results_row rfl _ _ _ _ _ _ rfl (row_s2 HX2.out.row) Tryz.underlying24 rfl (by kernel_rfl)) rfl ⟨rfl, ?_⟩
  exact After.boxed H.out HO2.out HA2.out HX2.out (by omega) _ _

/-- An operand's value, of one that is no place in memory. -/
theorem getBare_any (w : World) (C : Phys) (lv : Value) (m : Mach) (h : Own w C lv m) (i : Inst) (h0 : 0 ≤ i.op) (h1 : i.op ≤ 255) (op : Int) (ho : (1 ≤ op ∧ op ≤ 8) ∨ (14 ≤ op ∧ op ≤ 18) ∨ (21 ≤ op ∧ op ≤ 24)) (hm : op ≤ 2 → i.mod = 3) (t : V) :
    Calls Tryz.prog 66 #[.pointer (some ⟨C.b, 0, none⟩), i.val, .int .i64 op, t.val] w fun e w' => e = .returned (m.getV i op t).val ∧ After C lv w (m.getM i op) w' := by
  have hc : op = 1 ∨ op = 2 ∨ op = 3 ∨ op = 4 ∨ op = 5 ∨ op = 6 ∨ op = 7 ∨ op = 8 ∨ op = 14 ∨ op = 15 ∨ op = 16 ∨ op = 17 ∨ op = 18 ∨ op = 21 ∨ op = 22 ∨ op = 23 ∨ op = 24 := by omega
  rcases hc with rfl | rfl | rfl | rfl | rfl | rfl | rfl | rfl | rfl | rfl | rfl | rfl | rfl | rfl | rfl | rfl | rfl
  · have e := hm (by decide)
    rw [show m.getV i 1 t = ⟨m.r.byteV i.rm, false⟩ from if_pos e, show m.getM i 1 = m.regByteM i.rm from if_pos e]
    exact get_1 w C lv m h i (by rw [e]; rfl) t
  · have e := hm (by decide)
    rw [show m.getV i 2 t = m.r.get i.rm from if_pos e, show m.getM i 2 = m from if_pos e]
    exact get_2 w C lv m h i (by rw [e]; rfl) t
  · exact get_3 w C lv m h i t
  · exact get_4 w C lv m h i t
  · exact get_5 w C lv m h i t
  · exact get_6 w C lv m h i t
  · exact get_7 w C lv m h i t
  · exact get_8 w C lv m h i t
  · exact get_14 w C lv m h i h0 h1 t
  · exact get_15 w C lv m h i h0 h1 t
  · exact get_16 w C lv m h i h0 h1 t
  · exact get_17 w C lv m h i h0 h1 t
  · exact get_18 w C lv m h i h0 h1 t
  · exact get_21 w C lv m h i h0 h1 t
  · exact get_22 w C lv m h i h0 h1 t
  · exact get_23 w C lv m h i h0 h1 t
  · exact get_24 w C lv m h i h0 h1 t
end Go.Proofs.YtcglkefaopgjeaaGreatDoor
