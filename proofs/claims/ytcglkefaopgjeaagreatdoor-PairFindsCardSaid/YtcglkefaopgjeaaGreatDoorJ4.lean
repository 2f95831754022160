/- Package core: small. -/
import Derived.Test.YtcglkefaopgjeaaGreatDoorJ3
import Derived.Test.YtcglkefaopgjeaaGreatDoorD6
namespace Go.Proofs.YtcglkefaopgjeaaGreatDoor
set_option linter.unusedSimpArgs false
set_option linter.unusedVariables false
open Go.RowKit

@[go_sem] theorem field_val0 (a b : Value) (w : World) : (Instr.field 24 (.agg #[a, b]) 0).run Tryz.prog w = .ok a w := by kernel_rfl
abbrev instC (i : Inst) : Array Value := #[.bool i.lock, .int .i64 i.rep, .int .i64 i.seg, .int .u8 i.op, .int .i64 i.mod, .int .i64 i.reg, .int .i64 i.rm, .int .u16 i.disp, .int .u16 i.imm, .int .u16 i.sel]
abbrev valC (x : V) : Array Value := #[.int .u16 x.v, .bool x.t]
/-- A word's box is filled and handed back. -/
theorem After.boxed {C : Phys} {lv lv1 : Value} {w w1 : World} {m m' : Mach} {k : Nat} {cs : Array Value} {t : TypeId} (h : Own w C lv m) (ho : Own w1 C lv1 m') (ha : Acc C lv w lv1 w1) (hx : Box C lv1 w1 k cs t) (hk : w.heap.size ≤ k) (a b : Value) :
    After C lv w m' ((w1.setCell ⟨k, 0, none⟩ a).setCell ⟨k, 1, none⟩ b) :=
  have ap := h.apart hk
  After.mk ((ho.setBox (p := ⟨k, 0, none⟩) hx.no ap _).setBox (p := ⟨k, 1, none⟩) hx.no ap _) ((ha.setNew (p := ⟨k, 0, none⟩) hk _).setNew (p := ⟨k, 1, none⟩) hk _)
theorem row_s2 {w : World} {g : Nat} {a b x y : Value} {t : TypeId} (h : Row w g #[a, b] t) : Row ((w.setCell ⟨g, 0, none⟩ x).setCell ⟨g, 1, none⟩ y) g #[x, y] t := (h.setCell 0 x).setCell 1 y

theorem op_seg (x : Int) (h0 : 0 ≤ x) (h1 : x ≤ 255) : bits .and .u8 (x / 8) 3 = x / 8 % 4 := by
  obtain ⟨n, rfl⟩ := Int.eq_ofNat_of_zero_le h0
  have key : ∀ m : Fin 256, bits .and .u8 (((m.val : Nat) : Int) / 8) 3 = ((m.val : Nat) : Int) / 8 % 4 := by decide +kernel
  exact key ⟨n, by omega⟩
/-- The boxes that small begins with. -/
structure SmIn (C : Phys) (lv : Value) (w : World) (m : Mach) (i : Inst) (W0 : World) : Prop where
  o : Own W0 C lv m
  a : Acc C lv w lv W0
  i : Row W0 w.heap.size (instC i) 30
  x : Box C lv W0 (w.heap.size + 1) #[.int .u16 0, .bool false] 24
theorem smIn {C : Phys} {lv : Value} {w : World} {m : Mach} (h : Own w C lv m) (i : Inst) : SmIn C lv w m i ((w.alloc (.cells (instC i) 30)).alloc (.cells #[.int .u16 0, .bool false] 24)) := by
  refine ⟨(h.alloc _).alloc _, ((Acc.refl C lv w).alloc _).alloc _, (Row.new _ _ _).alloc _, ?_⟩
  have := Box.new (h.alloc (.cells (instC i) 30)) #[.int .u16 0, .bool false] 24
  rwa [World.size_alloc] at this

set_option maxRecDepth 100000 in
set_option maxHeartbeats 1600000 in
theorem small_14 (w : World) (C : Phys) (lv : Value) (m : Mach) (h : Own w C lv m) (i : Inst) (h0 : 0 ≤ i.op) (h1 : i.op ≤ 255) :
    Calls Tryz.prog 112 #[.pointer (some ⟨C.b, 0, none⟩), i.val, .int .i64 14] w fun e w' => e = .returned (V.val ⟨m.r.byteV 0, false⟩) ∧ After C lv w (m.regByteM 0) w' := by
  have hs := smIn h i
  have H := Lib.hid h
  have e7 := u8_and7 i.op h0 (by omega)
  clear h
  go_enter Tryz.func112, Tryz.ntmps112
  go_wp2_with fail
  generalize (w.alloc (.cells (instC i) 30)).alloc (.cells #[.int .u16 0, .bool false] 24) = W0 at *
  have HO0 := Lib.hid hs.o
  have HA0 := Lib.hid hs.a
  have HX0 := Lib.hid hs.x
  clear hs
  refine (regByte_any _ _ _ _ HO0.out 0).mono ?_
  rintro e w2 ⟨rfl, lv2, h2, f2, k2⟩; dsimp only
  have HO2 := Lib.hid h2
  have HA2 := Lib.hid (HA0.out.trans ⟨f2, k2⟩)
  have HX2 := Lib.hid (HX0.out.step f2 k2)
  clear h2 f2 k2
  have x1 := HX2.out.row.cell
  have x2 := HX2.out.row.frozen
  have x3 := HX2.out.row.lt
  go_wp2_with fail
  refine bodyPost_ret (results_row rfl _ _ _ _ _ _ rfl (row_s2 HX2.out.row) Tryz.underlying24 rfl (by kernel_rfl)) rfl ⟨rfl, ?_⟩
  exact After.boxed H.out HO2.out HA2.out HX2.out (Nat.le_succ _) _ _

set_option maxRecDepth 100000 in
set_option maxHeartbeats 1600000 in
theorem small_15 (w : World) (C : Phys) (lv : Value) (m : Mach) (h : Own w C lv m) (i : Inst) (h0 : 0 ≤ i.op) (h1 : i.op ≤ 255) :
    Calls Tryz.prog 112 #[.pointer (some ⟨C.b, 0, none⟩), i.val, .int .i64 15] w fun e w' => e = .returned (V.val ⟨m.r.byteV 1, false⟩) ∧ After C lv w (m.regByteM 1) w' := by
  have hs := smIn h i
  have H := Lib.hid h
  have e7 := u8_and7 i.op h0 (by omega)
  clear h
  go_enter Tryz.func112, Tryz.ntmps112
  go_wp2_with fail
  generalize (w.alloc (.cells (instC i) 30)).alloc (.cells #[.int .u16 0, .bool false] 24) = W0 at *
  have HO0 := Lib.hid hs.o
  have HA0 := Lib.hid hs.a
  have HX0 := Lib.hid hs.x
  clear hs
  refine (regByte_any _ _ _ _ HO0.out 1).mono ?_
  rintro e w2 ⟨rfl, lv2, h2, f2, k2⟩; dsimp only
  have HO2 := Lib.hid h2
  have HA2 := Lib.hid (HA0.out.trans ⟨f2, k2⟩)
  have HX2 := Lib.hid (HX0.out.step f2 k2)
  clear h2 f2 k2
  have x1 := HX2.out.row.cell
  have x2 := HX2.out.row.frozen
  have x3 := HX2.out.row.lt
  go_wp2_with fail
  refine bodyPost_ret (results_row rfl _ _ _ _ _ _ rfl (row_s2 HX2.out.row) Tryz.underlying24 rfl (by kernel_rfl)) rfl ⟨rfl, ?_⟩
  exact After.boxed H.out HO2.out HA2.out HX2.out (Nat.le_succ _) _ _

set_option maxRecDepth 100000 in
set_option maxHeartbeats 1600000 in
theorem small_16 (w : World) (C : Phys) (lv : Value) (m : Mach) (h : Own w C lv m) (i : Inst) (h0 : 0 ≤ i.op) (h1 : i.op ≤ 255) :
    Calls Tryz.prog 112 #[.pointer (some ⟨C.b, 0, none⟩), i.val, .int .i64 16] w fun e w' => e = .returned (V.val m.r.g0) ∧ After C lv w m w' := by
  have hs := smIn h i
  have H := Lib.hid h
  have e7 := u8_and7 i.op h0 (by omega)
  clear h
  go_enter Tryz.func112, Tryz.ntmps112
  have sr := hs.o.sees.r
  have sl := hs.o.row.lt
  go_wp2_with fail
  generalize (w.alloc (.cells (instC i) 30)).alloc (.cells #[.int .u16 0, .bool false] 24) = W0 at *
  have HO0 := Lib.hid hs.o
  have HA0 := Lib.hid hs.a
  have HX0 := Lib.hid hs.x
  clear hs sr sl
  refine (get_any m.r 0 _).mono ?_
  rw [show m.r.get 0 = m.r.g0 from rfl]
  rintro e w2 ⟨rfl, hb⟩; dsimp only
  have HO2 := Lib.hid (HO0.out.below hb)
  have HA2 := Lib.hid (HA0.out.below hb)
  have HX2 := Lib.hid (HX0.out.below hb)
  clear hb
  have x1 := HX2.out.row.cell
  have x2 := HX2.out.row.frozen
  have x3 := HX2.out.row.lt
  go_wp2_with fail
  refine bodyPost_ret (results_row rfl _ _ _ _ _ _ rfl (row_s2 HX2.out.row) Tryz.underlying24 rfl (by kernel_rfl)) rfl ⟨rfl, ?_⟩
  exact After.boxed H.out HO2.out HA2.out HX2.out (Nat.le_succ _) _ _

set_option maxRecDepth 100000 in
set_option maxHeartbeats 1600000 in
theorem small_17 (w : World) (C : Phys) (lv : Value) (m : Mach) (h : Own w C lv m) (i : Inst) (h0 : 0 ≤ i.op) (h1 : i.op ≤ 255) :
    Calls Tryz.prog 112 #[.pointer (some ⟨C.b, 0, none⟩), i.val, .int .i64 17] w fun e w' => e = .returned (V.val m.r.g2) ∧ After C lv w m w' := by
  have hs := smIn h i
  have H := Lib.hid h
  have e7 := u8_and7 i.op h0 (by omega)
  clear h
  go_enter Tryz.func112, Tryz.ntmps112
  have sr := hs.o.sees.r
  have sl := hs.o.row.lt
  go_wp2_with fail
  generalize (w.alloc (.cells (instC i) 30)).alloc (.cells #[.int .u16 0, .bool false] 24) = W0 at *
  have HO0 := Lib.hid hs.o
  have HA0 := Lib.hid hs.a
  have HX0 := Lib.hid hs.x
  clear hs sr sl
  refine (get_any m.r 2 _).mono ?_
  rw [show m.r.get 2 = m.r.g2 from rfl]
  rintro e w2 ⟨rfl, hb⟩; dsimp only
  have HO2 := Lib.hid (HO0.out.below hb)
  have HA2 := Lib.hid (HA0.out.below hb)
  have HX2 := Lib.hid (HX0.out.below hb)
  clear hb
  have x1 := HX2.out.row.cell
  have x2 := HX2.out.row.frozen
  have x3 := HX2.out.row.lt
  go_wp2_with fail
  refine bodyPost_ret (results_row rfl _ _ _ _ _ _ rfl (row_s2 HX2.out.row) Tryz.underlying24 rfl (by kernel_rfl)) rfl ⟨rfl, ?_⟩
  exact After.boxed H.out HO2.out HA2.out HX2.out (Nat.le_succ _) _ _

set_option maxRecDepth 100000 in
set_option maxHeartbeats 1600000 in
theorem small_18 (w : World) (C : Phys) (lv : Value) (m : Mach) (h : Own w C lv m) (i : Inst) (h0 : 0 ≤ i.op) (h1 : i.op ≤ 255) :
    Calls Tryz.prog 112 #[.pointer (some ⟨C.b, 0, none⟩), i.val, .int .i64 18] w fun e w' => e = .returned (V.val ⟨1, false⟩) ∧ After C lv w m w' := by
  have hs := smIn h i
  have H := Lib.hid h
  have e7 := u8_and7 i.op h0 (by omega)
  clear h
  clear hs
  go_enter Tryz.func112, Tryz.ntmps112
  go_wp2_with fail
  refine bodyPost_ret (results_row rfl _ _ _ _ _ _ rfl (Row.new' (by simp)) Tryz.underlying24 rfl (by kernel_rfl)) rfl ⟨rfl, ?_⟩
  exact After.mk ((H.out.alloc _).alloc _) (((Acc.refl C lv w).alloc _).alloc _)

set_option maxRecDepth 100000 in
set_option maxHeartbeats 1600000 in
theorem small_24 (w : World) (C : Phys) (lv : Value) (m : Mach) (h : Own w C lv m) (i : Inst) (h0 : 0 ≤ i.op) (h1 : i.op ≤ 255) :
    Calls Tryz.prog 112 #[.pointer (some ⟨C.b, 0, none⟩), i.val, .int .i64 24] w fun e w' => e = .returned (V.val ⟨3, false⟩) ∧ After C lv w m w' := by
  have hs := smIn h i
  have H := Lib.hid h
  have e7 := u8_and7 i.op h0 (by omega)
  clear h
  clear hs
  go_enter Tryz.func112, Tryz.ntmps112
  go_wp2_with fail
  refine bodyPost_ret (results_row rfl _ _ _ _ _ _ rfl (Row.new' (by simp)) Tryz.underlying24 rfl (by kernel_rfl)) rfl ⟨rfl, ?_⟩
  exact After.mk ((H.out.alloc _).alloc _) (((Acc.refl C lv w).alloc _).alloc _)

set_option maxRecDepth 100000 in
set_option maxHeartbeats 1600000 in
theorem small_21 (w : World) (C : Phys) (lv : Value) (m : Mach) (h : Own w C lv m) (i : Inst) (h0 : 0 ≤ i.op) (h1 : i.op ≤ 255) :
    Calls Tryz.prog 112 #[.pointer (some ⟨C.b, 0, none⟩), i.val, .int .i64 21] w fun e w' => e = .returned (V.val ⟨m.r.byteV (i.op % 8), false⟩) ∧ After C lv w (m.regByteM (i.op % 8)) w' := by
  have hs := smIn h i
  have H := Lib.hid h
  have e7 := u8_and7 i.op h0 (by omega)
  clear h
  go_enter Tryz.func112, Tryz.ntmps112
  have c3 := hs.i.cell 3
  go_wp2_with fail
  generalize (w.alloc (.cells (instC i) 30)).alloc (.cells #[.int .u16 0, .bool false] 24) = W0 at *
  have HO0 := Lib.hid hs.o
  have HA0 := Lib.hid hs.a
  have HX0 := Lib.hid hs.x
  clear hs c3
  refine (regByte_any _ _ _ _ HO0.out (i.op % 8)).mono ?_
  rintro e w2 ⟨rfl, lv2, h2, f2, k2⟩; dsimp only
  have HO2 := Lib.hid h2
  have HA2 := Lib.hid (HA0.out.trans ⟨f2, k2⟩)
  have HX2 := Lib.hid (HX0.out.step f2 k2)
  clear h2 f2 k2
  have x1 := HX2.out.row.cell
  have x2 := HX2.out.row.frozen
  have x3 := HX2.out.row.lt
  go_wp2_with fail
  refine bodyPost_ret (results_row rfl _ _ _ _ _ _ rfl (row_s2 HX2.out.row) Tryz.underlying24 rfl (by kernel_rfl)) rfl ⟨rfl, ?_⟩
  exact After.boxed H.out HO2.out HA2.out HX2.out (Nat.le_succ _) _ _

set_option maxRecDepth 100000 in
set_option maxHeartbeats 1600000 in
theorem small_22 (w : World) (C : Phys) (lv : Value) (m : Mach) (h : Own w C lv m) (i : Inst) (h0 : 0 ≤ i.op) (h1 : i.op ≤ 255) :
    Calls Tryz.prog 112 #[.pointer (some ⟨C.b, 0, none⟩), i.val, .int .i64 22] w fun e w' => e = .returned (V.val (m.r.get (i.op % 8))) ∧ After C lv w m w' := by
  have hs := smIn h i
  have H := Lib.hid h
  have e7 := u8_and7 i.op h0 (by omega)
  clear h
  go_enter Tryz.func112, Tryz.ntmps112
  go_wp2_with fail
  generalize (w.alloc (.cells (instC i) 30)).alloc (.cells #[.int .u16 0, .bool false] 24) = W0 at *
  have HO0 := Lib.hid hs.o
  have HA0 := Lib.hid hs.a
  have HX0 := Lib.hid hs.x
  have sr := hs.o.sees.r
  have c3 : W0.cell? ⟨w.heap.size, 3, none⟩ = some (.int .u8 i.op) := hs.i.cell 3
  clear hs
  refine range_of (W0) ?_; intro S inst ω hin hout
  have r1 := range_regs hin sr
  have r2 := range_cell hin c3
  have k1 := range_call hin hout (get_any m.r (i.op % 8))
  clear sr c3
  refine wp_region_tail_range ω 9 (by kernel_rfl) (by kernel_rfl) (hout _ (Below.refl _ _).drew) ?_; simp only [List.take_succ_cons, List.take_zero, List.drop_succ_cons, List.drop_zero]
  repeat (go_big_quiet_step ((with_reducible exact k1 _)))
  refine wpQuiet_nil ?_; intro _ hw'; obtain ⟨nq, rfl⟩ := hw'
  have HO2 := Lib.hid (HO0.out.below (hin nq))
  have HA2 := Lib.hid (HA0.out.below (hin nq))
  have HX2 := Lib.hid (HX0.out.below (hin nq))
  clear r1 r2 k1
  generalize ω nq = w1 at HO2 HA2 HX2 ⊢
  have x1 := HX2.out.row.cell
  have x2 := HX2.out.row.frozen
  have x3 := HX2.out.row.lt
  go_wp2_with fail
  refine bodyPost_ret (results_row rfl _ _ _ _ _ _ rfl (row_s2 HX2.out.row) Tryz.underlying24 rfl (by kernel_rfl)) rfl ⟨rfl, ?_⟩
  exact After.boxed H.out HO2.out HA2.out HX2.out (Nat.le_succ _) _ _

set_option maxRecDepth 100000 in
set_option maxHeartbeats 1600000 in
theorem small_23 (w : World) (C : Phys) (lv : Value) (m : Mach) (h : Own w C lv m) (i : Inst) (h0 : 0 ≤ i.op) (h1 : i.op ≤ 255) :
    Calls Tryz.prog 112 #[.pointer (some ⟨C.b, 0, none⟩), i.val, .int .i64 23] w fun e w' => e = .returned (V.val (m.r.seg (i.op / 8 % 4))) ∧ After C lv w m w' := by
  have hs := smIn h i
  have H := Lib.hid h
  have e7 := u8_and7 i.op h0 (by omega)
  clear h
  go_enter Tryz.func112, Tryz.ntmps112
  go_wp2_with fail
  generalize (w.alloc (.cells (instC i) 30)).alloc (.cells #[.int .u16 0, .bool false] 24) = W0 at *
  have HO0 := Lib.hid hs.o
  have HA0 := Lib.hid hs.a
  have HX0 := Lib.hid hs.x
  have e3 := op_seg i.op h0 h1
  have sr := hs.o.sees.r
  have c3 : W0.cell? ⟨w.heap.size, 3, none⟩ = some (.int .u8 i.op) := hs.i.cell 3
  clear hs
  refine range_of (W0) ?_; intro S inst ω hin hout
  have r1 := range_regs hin sr
  have r2 := range_cell hin c3
  have k1 := range_call hin hout (seg_any m.r (i.op / 8 % 4))
  clear sr c3
  refine wp_region_tail_range ω 10 (by kernel_rfl) (by kernel_rfl) (hout _ (Below.refl _ _).drew) ?_; simp only [List.take_succ_cons, List.take_zero, List.drop_succ_cons, List.drop_zero]
  repeat (go_big_quiet_step ((with_reducible exact k1 _)))
  refine wpQuiet_nil ?_; intro _ hw'; obtain ⟨nq, rfl⟩ := hw'
  have HO2 := Lib.hid (HO0.out.below (hin nq))
  have HA2 := Lib.hid (HA0.out.below (hin nq))
  have HX2 := Lib.hid (HX0.out.below (hin nq))
  clear r1 r2 k1
  generalize ω nq = w1 at HO2 HA2 HX2 ⊢
  have x1 := HX2.out.row.cell
  have x2 := HX2.out.row.frozen
  have x3 := HX2.out.row.lt
  go_wp2_with fail
  refine bodyPost_ret (results_row rfl _ _ _ _ _ _ rfl (row_s2 HX2.out.row) Tryz.underlying24 rfl (by kernel_rfl)) rfl ⟨rfl, ?_⟩
  exact After.boxed H.out HO2.out HA2.out HX2.out (Nat.le_succ _) _ _

end Go.Proofs.YtcglkefaopgjeaaGreatDoor
