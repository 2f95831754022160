/- Package cpu: flags. -/
import Derived.Test.YtcglkefaopgjeaaGreatDoorJ7
import Derived.Test.YtcglkefaopgjeaaGreatDoorEB
import Derived.Test.YtcglkefaopgjeaaGreatDoorH4
namespace Go.Proofs.YtcglkefaopgjeaaGreatDoor
set_option linter.unusedSimpArgs false
set_option linter.unusedVariables false
open Go.RowKit

abbrev xorW (a b : Int) : Int := bits .xor .u16 a b
/-- A word's sign, spread over a word. -/
def spreadW (x : Int) : Int := if 32767 < x then 65535 else 0
theorem spread_wf (x : Int) : V.wf ⟨spreadW x, false⟩ := by
  unfold spreadW V.wf
  dsimp only
  split <;> omega
theorem spread_wrap (x : Int) (h0 : 0 ≤ x) (h1 : x ≤ 65535) : IntKind.u16.wrap (IntKind.i16.wrap x / 32768) = spreadW x := by
  have e : IntKind.i16.wrap x = if 32767 < x then x - 65536 else x := by
    simp [IntKind.wrap, IntKind.bits, IntKind.signed]
    split <;> split <;> omega
  rw [IntKind.wrap_u16, e]
  unfold spreadW
  split <;> omega
abbrev ahI : Inst := ⟨false, 0, 0, 0, 3, 0, 4, 0, 0, 0⟩
def Mach.doWith (m : Mach) (f : Int) (on : Bool) : Mach := m.setR (m.r.withF f on)
def Mach.doCmc (m : Mach) : Mach := m.setR { m.r with f := xorW m.r.f 1 }
def Mach.doLahf (m : Mach) : Mach := m.putV ahI 1 ⟨andW (orW (andW m.r.f 4053) 61442) 255, false⟩
def Mach.doSahf (m : Mach) : Mach := (m.getM ahI 1).setR { (m.getM ahI 1).r with f := orW (andNotW (m.getM ahI 1).r.f 255) (andW (andW (m.getV ahI 1 zeroV).v 255) 4053) }
def Mach.doCbw (m : Mach) : Mach := (m.plain m.r.g0).setR (m.r.put 0 ⟨signW (m.r.g0.v % 256), false⟩)
def Mach.doCwd (m : Mach) : Mach := (m.plain m.r.g0).setR (m.r.put 2 ⟨spreadW m.r.g0.v, false⟩)
theorem xor_lo (a b : Int) : 0 ≤ xorW a b := by show 0 ≤ IntKind.u16.wrap _; exact wrap16_lo _
theorem xor_hi (a b : Int) : xorW a b ≤ 65535 := by show IntKind.u16.wrap _ ≤ 65535; exact wrap16_hi _
theorem andNot_lo (a b : Int) : 0 ≤ andNotW a b := by show 0 ≤ IntKind.u16.wrap _; exact wrap16_lo _
theorem andNot_hi (a b : Int) : andNotW a b ≤ 65535 := by show IntKind.u16.wrap _ ≤ 65535; exact wrap16_hi _
theorem withF_wf {r : Regs} (h : r.wf) (f : Int) (on : Bool) : (r.withF f on).wf := by
  unfold Regs.withF
  cases on
  · exact { h with f := ⟨andNot_lo _ _, andNot_hi _ _⟩ }
  · exact { h with f := ⟨or_lo _ _, or_hi _ _⟩ }

/-- The box that flags begins with. -/
structure FlIn (C : Phys) (lv : Value) (w : World) (m : Mach) (r : IRow) (W0 : World) : Prop where
  o : Own W0 C lv m
  a : Acc C lv w lv W0
  r : Box C lv W0 w.heap.size (rowC r) 47
theorem flIn {C : Phys} {lv : Value} {w : World} {m : Mach} (h : Own w C lv m) (r : IRow) : FlIn C lv w m r (w.alloc (.cells (rowC r) 47)) := ⟨h.alloc _, (Acc.refl C lv w).alloc _, Box.new h _ _⟩

set_option maxRecDepth 100000 in
set_option maxHeartbeats 1600000 in
theorem flags_90 (w : World) (C : Phys) (lv : Value) (m : Mach) (h : Own w C lv m) (r : IRow) (hn : r.name = 90) :
    Calls Tryz.prog 130 #[.pointer (some ⟨C.b, 0, none⟩), r.val] w fun e w' => e = .returned (.tuple #[]) ∧ After C lv w (m.doWith 1 false) w' := by
  obtain ⟨name, ra, rb, rm⟩ := r
  dsimp only at hn
  subst hn
  have hs := flIn h ⟨90, ra, rb, rm⟩
  have hwf := h.wf.r
  clear h
  have xr := hs.r.row.cell
  go_enter Tryz.func130, Tryz.ntmps130
  go_wp2_with fail
  generalize w.alloc (.cells (rowC ⟨90, ra, rb, rm⟩) 47) = W0 at *
  have HO0 := Lib.hid hs.o
  have HA0 := Lib.hid hs.a
  have HWF := Lib.hid (withF_wf hwf 1 false)
  have sr := hs.o.sees.r
  have c4 : W0.cell? ⟨w.heap.size, 0, none⟩ = some (.int .i64 90) := xr 0
  clear hs xr hwf
  refine range_of (W0) ?_; intro S inst ω hin hout
  have r1 := range_regs hin sr
  have r3 := range_cell hin c4
  have k1 := range_call hin hout (with_any m.r 1 false)
  clear sr c4
  refine wp_region_tail_range ω 11 (by kernel_rfl) (by kernel_rfl) (hout _ (Below.refl _ _).drew) ?_; simp only [List.take_succ_cons, List.take_zero, List.drop_succ_cons, List.drop_zero]
  repeat (go_big_quiet_step ((with_reducible exact k1 _)))
  refine wpQuiet_nil ?_; intro _ hw'; obtain ⟨nq, rfl⟩ := hw'
  have HO2 := Lib.hid (HO0.out.below (hin nq))
  have HA2 := Lib.hid (HA0.out.below (hin nq))
  clear r1 r3 k1
  generalize ω nq = w1 at HO2 HA2 ⊢
  have sc := HO2.out.sees.c; have sf := HO2.out.sees.f; have sr := HO2.out.sees.r; have ss := HO2.out.sees.s; have sl := HO2.out.sees.l
  go_wp2_with fail
  (first | go_end0 | (((try simp only [Exit.inBlock, Exit.then]); refine bodyPost_ret (results_none rfl _ _ _) rfl ?_)))
  exact ⟨rfl, After.mk (HO2.out.putR _ HWF.out) (HA2.out.putR _)⟩

set_option maxRecDepth 100000 in
set_option maxHeartbeats 1600000 in
theorem flags_91 (w : World) (C : Phys) (lv : Value) (m : Mach) (h : Own w C lv m) (r : IRow) (hn : r.name = 91) :
    Calls Tryz.prog 130 #[.pointer (some ⟨C.b, 0, none⟩), r.val] w fun e w' => e = .returned (.tuple #[]) ∧ After C lv w (m.doWith 1 true) w' := by
  obtain ⟨name, ra, rb, rm⟩ := r
  dsimp only at hn
  subst hn
  have hs := flIn h ⟨91, ra, rb, rm⟩
  have hwf := h.wf.r
  clear h
  have xr := hs.r.row.cell
  go_enter Tryz.func130, Tryz.ntmps130
  go_wp2_with fail
  generalize w.alloc (.cells (rowC ⟨91, ra, rb, rm⟩) 47) = W0 at *
  have HO0 := Lib.hid hs.o
  have HA0 := Lib.hid hs.a
  have HWF := Lib.hid (withF_wf hwf 1 true)
  have sr := hs.o.sees.r
  have c4 : W0.cell? ⟨w.heap.size, 0, none⟩ = some (.int .i64 91) := xr 0
  clear hs xr hwf
  refine range_of (W0) ?_; intro S inst ω hin hout
  have r1 := range_regs hin sr
  have r3 := range_cell hin c4
  have k1 := range_call hin hout (with_any m.r 1 true)
  clear sr c4
  refine wp_region_tail_range ω 11 (by kernel_rfl) (by kernel_rfl) (hout _ (Below.refl _ _).drew) ?_; simp only [List.take_succ_cons, List.take_zero, List.drop_succ_cons, List.drop_zero]
  repeat (go_big_quiet_step ((with_reducible exact k1 _)))
  refine wpQuiet_nil ?_; intro _ hw'; obtain ⟨nq, rfl⟩ := hw'
  have HO2 := Lib.hid (HO0.out.below (hin nq))
  have HA2 := Lib.hid (HA0.out.below (hin nq))
  clear r1 r3 k1
  generalize ω nq = w1 at HO2 HA2 ⊢
  have sc := HO2.out.sees.c; have sf := HO2.out.sees.f; have sr := HO2.out.sees.r; have ss := HO2.out.sees.s; have sl := HO2.out.sees.l
  go_wp2_with fail
  (first | go_end0 | (((try simp only [Exit.inBlock, Exit.then]); refine bodyPost_ret (results_none rfl _ _ _) rfl ?_)))
  exact ⟨rfl, After.mk (HO2.out.putR _ HWF.out) (HA2.out.putR _)⟩

set_option maxRecDepth 100000 in
set_option maxHeartbeats 1600000 in
theorem flags_92 (w : World) (C : Phys) (lv : Value) (m : Mach) (h : Own w C lv m) (r : IRow) (hn : r.name = 92) :
    Calls Tryz.prog 130 #[.pointer (some ⟨C.b, 0, none⟩), r.val] w fun e w' => e = .returned (.tuple #[]) ∧ After C lv w (m.doWith 512 false) w' := by
  obtain ⟨name, ra, rb, rm⟩ := r
  dsimp only at hn
  subst hn
  have hs := flIn h ⟨92, ra, rb, rm⟩
  have hwf := h.wf.r
  clear h
  have xr := hs.r.row.cell
  go_enter Tryz.func130, Tryz.ntmps130
  go_wp2_with fail
  generalize w.alloc (.cells (rowC ⟨92, ra, rb, rm⟩) 47) = W0 at *
  have HO0 := Lib.hid hs.o
  have HA0 := Lib.hid hs.a
  have HWF := Lib.hid (withF_wf hwf 512 false)
  have sr := hs.o.sees.r
  have c4 : W0.cell? ⟨w.heap.size, 0, none⟩ = some (.int .i64 92) := xr 0
  clear hs xr hwf
  refine range_of (W0) ?_; intro S inst ω hin hout
  have r1 := range_regs hin sr
  have r3 := range_cell hin c4
  have k1 := range_call hin hout (with_any m.r 512 false)
  clear sr c4
  refine wp_region_tail_range ω 11 (by kernel_rfl) (by kernel_rfl) (hout _ (Below.refl _ _).drew) ?_; simp only [List.take_succ_cons, List.take_zero, List.drop_succ_cons, List.drop_zero]
  repeat (go_big_quiet_step ((with_reducible exact k1 _)))
  refine wpQuiet_nil ?_; intro _ hw'; obtain ⟨nq, rfl⟩ := hw'
  have HO2 := Lib.hid (HO0.out.below (hin nq))
  have HA2 := Lib.hid (HA0.out.below (hin nq))
  clear r1 r3 k1
  generalize ω nq = w1 at HO2 HA2 ⊢
  have sc := HO2.out.sees.c; have sf := HO2.out.sees.f; have sr := HO2.out.sees.r; have ss := HO2.out.sees.s; have sl := HO2.out.sees.l
  go_wp2_with fail
  (first | go_end0 | (((try simp only [Exit.inBlock, Exit.then]); refine bodyPost_ret (results_none rfl _ _ _) rfl ?_)))
  exact ⟨rfl, After.mk (HO2.out.putR _ HWF.out) (HA2.out.putR _)⟩

set_option maxRecDepth 100000 in
set_option maxHeartbeats 1600000 in
theorem flags_93 (w : World) (C : Phys) (lv : Value) (m : Mach) (h : Own w C lv m) (r : IRow) (hn : r.name = 93) :
    Calls Tryz.prog 130 #[.pointer (some ⟨C.b, 0, none⟩), r.val] w fun e w' => e = .returned (.tuple #[]) ∧ After C lv w (m.doWith 512 true) w' := by
  obtain ⟨name, ra, rb, rm⟩ := r
  dsimp only at hn
  subst hn
  have hs := flIn h ⟨93, ra, rb, rm⟩
  have hwf := h.wf.r
  clear h
  have xr := hs.r.row.cell
  go_enter Tryz.func130, Tryz.ntmps130
  go_wp2_with fail
  generalize w.alloc (.cells (rowC ⟨93, ra, rb, rm⟩) 47) = W0 at *
  have HO0 := Lib.hid hs.o
  have HA0 := Lib.hid hs.a
  have HWF := Lib.hid (withF_wf hwf 512 true)
  have sr := hs.o.sees.r
  have c4 : W0.cell? ⟨w.heap.size, 0, none⟩ = some (.int .i64 93) := xr 0
  clear hs xr hwf
  refine range_of (W0) ?_; intro S inst ω hin hout
  have r1 := range_regs hin sr
  have r3 := range_cell hin c4
  have k1 := range_call hin hout (with_any m.r 512 true)
  clear sr c4
  refine wp_region_tail_range ω 11 (by kernel_rfl) (by kernel_rfl) (hout _ (Below.refl _ _).drew) ?_; simp only [List.take_succ_cons, List.take_zero, List.drop_succ_cons, List.drop_zero]
  repeat (go_big_quiet_step ((with_reducible exact k1 _)))
  refine wpQuiet_nil ?_; intro _ hw'; obtain ⟨nq, rfl⟩ := hw'
  have HO2 := Lib.hid (HO0.out.below (hin nq))
  have HA2 := Lib.hid (HA0.out.below (hin nq))
  clear r1 r3 k1
  generalize ω nq = w1 at HO2 HA2 ⊢
  have sc := HO2.out.sees.c; have sf := HO2.out.sees.f; have sr := HO2.out.sees.r; have ss := HO2.out.sees.s; have sl := HO2.out.sees.l
  go_wp2_with fail
  (first | go_end0 | (((try simp only [Exit.inBlock, Exit.then]); refine bodyPost_ret (results_none rfl _ _ _) rfl ?_)))
  exact ⟨rfl, After.mk (HO2.out.putR _ HWF.out) (HA2.out.putR _)⟩

set_option maxRecDepth 100000 in
set_option maxHeartbeats 1600000 in
theorem flags_94 (w : World) (C : Phys) (lv : Value) (m : Mach) (h : Own w C lv m) (r : IRow) (hn : r.name = 94) :
    Calls Tryz.prog 130 #[.pointer (some ⟨C.b, 0, none⟩), r.val] w fun e w' => e = .returned (.tuple #[]) ∧ After C lv w (m.doWith 1024 false) w' := by
  obtain ⟨name, ra, rb, rm⟩ := r
  dsimp only at hn
  subst hn
  have hs := flIn h ⟨94, ra, rb, rm⟩
  have hwf := h.wf.r
  clear h
  have xr := hs.r.row.cell
  go_enter Tryz.func130, Tryz.ntmps130
  go_wp2_with fail
  generalize w.alloc (.cells (rowC ⟨94, ra, rb, rm⟩) 47) = W0 at *
  have HO0 := Lib.hid hs.o
  have HA0 := Lib.hid hs.a
  have HWF := Lib.hid (withF_wf hwf 1024 false)
  have sr := hs.o.sees.r
  have c4 : W0.cell? ⟨w.heap.size, 0, none⟩ = some (.int .i64 94) := xr 0
  clear hs xr hwf
  refine range_of (W0) ?_; intro S inst ω hin hout
  have r1 := range_regs hin sr
  have r3 := range_cell hin c4
  have k1 := range_call hin hout (with_any m.r 1024 false)
  clear sr c4
  refine wp_region_tail_range ω 11 (by kernel_rfl) (by kernel_rfl) (hout _ (Below.refl _ _).drew) ?_; simp only [List.take_succ_cons, List.take_zero, List.drop_succ_cons, List.drop_zero]
  repeat (go_big_quiet_step ((with_reducible exact k1 _)))
  refine wpQuiet_nil ?_; intro _ hw'; obtain ⟨nq, rfl⟩ := hw'
  have HO2 := Lib.hid (HO0.out.below (hin nq))
  have HA2 := Lib.hid (HA0.out.below (hin nq))
  clear r1 r3 k1
  generalize ω nq = w1 at HO2 HA2 ⊢
  have sc := HO2.out.sees.c; have sf := HO2.out.sees.f; have sr := HO2.out.sees.r; have ss := HO2.out.sees.s; have sl := HO2.out.sees.l
  go_wp2_with fail
  (first | go_end0 | (((try simp only [Exit.inBlock, Exit.then]); refine bodyPost_ret (results_none rfl _ _ _) rfl ?_)))
  exact ⟨rfl, After.mk (HO2.out.putR _ HWF.out) (HA2.out.putR _)⟩

set_option maxRecDepth 100000 in
set_option maxHeartbeats 1600000 in
theorem flags_95 (w : World) (C : Phys) (lv : Value) (m : Mach) (h : Own w C lv m) (r : IRow) (hn : r.name = 95) :
    Calls Tryz.prog 130 #[.pointer (some ⟨C.b, 0, none⟩), r.val] w fun e w' => e = .returned (.tuple #[]) ∧ After C lv w (m.doWith 1024 true) w' := by
  obtain ⟨name, ra, rb, rm⟩ := r
  dsimp only at hn
  subst hn
  have hs := flIn h ⟨95, ra, rb, rm⟩
  have hwf := h.wf.r
  clear h
  have xr := hs.r.row.cell
  go_enter Tryz.func130, Tryz.ntmps130
  go_wp2_with fail
  generalize w.alloc (.cells (rowC ⟨95, ra, rb, rm⟩) 47) = W0 at *
  have HO0 := Lib.hid hs.o
  have HA0 := Lib.hid hs.a
  have HWF := Lib.hid (withF_wf hwf 1024 true)
  have sr := hs.o.sees.r
  have c4 : W0.cell? ⟨w.heap.size, 0, none⟩ = some (.int .i64 95) := xr 0
  clear hs xr hwf
  refine range_of (W0) ?_; intro S inst ω hin hout
  have r1 := range_regs hin sr
  have r3 := range_cell hin c4
  have k1 := range_call hin hout (with_any m.r 1024 true)
  clear sr c4
  refine wp_region_tail_range ω 11 (by kernel_rfl) (by kernel_rfl) (hout _ (Below.refl _ _).drew) ?_; simp only [List.take_succ_cons, List.take_zero, List.drop_succ_cons, List.drop_zero]
  repeat (go_big_quiet_step ((with_reducible exact k1 _)))
  refine wpQuiet_nil ?_; intro _ hw'; obtain ⟨nq, rfl⟩ := hw'
  have HO2 := Lib.hid (HO0.out.below (hin nq))
  have HA2 := Lib.hid (HA0.out.below (hin nq))
  clear r1 r3 k1
  generalize ω nq = w1 at HO2 HA2 ⊢
  have sc := HO2.out.sees.c; have sf := HO2.out.sees.f; have sr := HO2.out.sees.r; have ss := HO2.out.sees.s; have sl := HO2.out.sees.l
  go_wp2_with fail
  (first | go_end0 | (((try simp only [Exit.inBlock, Exit.then]); refine bodyPost_ret (results_none rfl _ _ _) rfl ?_)))
  exact ⟨rfl, After.mk (HO2.out.putR _ HWF.out) (HA2.out.putR _)⟩

set_option maxRecDepth 100000 in
set_option maxHeartbeats 1600000 in
theorem flags_83 (w : World) (C : Phys) (lv : Value) (m : Mach) (h : Own w C lv m) (r : IRow) (hn : r.name = 83) :
    Calls Tryz.prog 130 #[.pointer (some ⟨C.b, 0, none⟩), r.val] w fun e w' => e = .returned (.tuple #[]) ∧ After C lv w m.doCmc w' := by
  obtain ⟨name, ra, rb, rm⟩ := r
  dsimp only at hn
  subst hn
  have hs := flIn h ⟨83, ra, rb, rm⟩
  have hwf := h.wf.r
  clear h
  have xr := hs.r.row.cell
  have HO0 := Lib.hid hs.o
  have HA0 := Lib.hid hs.a
  have sc := hs.o.sees.c
  have sf := hs.o.sees.f
  have sl := hs.o.row.lt
  clear hs
  go_enter Tryz.func130, Tryz.ntmps130
  go_wp2_with fail
  (first | go_end0 | (((try simp only [Exit.inBlock, Exit.then]); refine bodyPost_ret (results_none rfl _ _ _) rfl ?_)))
  exact ⟨rfl, After.mk (HO0.out.setFl _ (xor_lo _ _) (xor_hi _ _)) (HA0.out.setB 25 _)⟩

set_option maxRecDepth 100000 in
set_option maxHeartbeats 1600000 in
theorem flags_82 (w : World) (C : Phys) (lv : Value) (m : Mach) (h : Own w C lv m) (r : IRow) (hn : r.name = 82) :
    Calls Tryz.prog 130 #[.pointer (some ⟨C.b, 0, none⟩), r.val] w fun e w' => e = .returned (.tuple #[]) ∧ After C lv w (m.end 4) w' := by
  obtain ⟨name, ra, rb, rm⟩ := r
  dsimp only at hn
  subst hn
  have hs := flIn h ⟨82, ra, rb, rm⟩
  have hwf := h.wf.r
  clear h
  have xr := hs.r.row.cell
  go_enter Tryz.func130, Tryz.ntmps130
  go_wp2_with fail
  generalize w.alloc (.cells (rowC ⟨82, ra, rb, rm⟩) 47) = W0 at *
  have HO0 := Lib.hid hs.o
  have HA0 := Lib.hid hs.a
  clear hs xr
  refine (end_any _ _ _ _ HO0.out 4).mono ?_
  rintro e w2 ⟨rfl, lv2, h2, f2, k2⟩; dsimp only
  have HO2 := Lib.hid h2
  have HA2 := Lib.hid (HA0.out.trans ⟨f2, k2⟩)
  clear h2 f2 k2
  go_wp2_with fail
  (first | go_end0 | (((try simp only [Exit.inBlock, Exit.then]); refine bodyPost_ret (results_none rfl _ _ _) rfl ?_)))
  exact ⟨rfl, After.mk HO2.out HA2.out⟩

set_option maxRecDepth 100000 in
set_option maxHeartbeats 1600000 in
theorem flags_45 (w : World) (C : Phys) (lv : Value) (m : Mach) (h : Own w C lv m) (r : IRow) (hn : r.name = 45) :
    Calls Tryz.prog 130 #[.pointer (some ⟨C.b, 0, none⟩), r.val] w fun e w' => e = .returned (.tuple #[]) ∧ After C lv w m.doLahf w' := by
  obtain ⟨name, ra, rb, rm⟩ := r
  dsimp only at hn
  subst hn
  have hs := flIn h ⟨45, ra, rb, rm⟩
  have hwf := h.wf.r
  clear h
  have xr := hs.r.row.cell
  have sr := hs.o.sees.r
  have sl := hs.o.row.lt
  go_enter Tryz.func130, Tryz.ntmps130
  go_wp2_with fail
  generalize w.alloc (.cells (rowC ⟨45, ra, rb, rm⟩) 47) = W0 at *
  have HO0 := Lib.hid hs.o
  have HA0 := Lib.hid hs.a
  refine (flagsWord_any m.r _).mono ?_
  clear hs xr sr sl
  rintro e w1 ⟨rfl, hb⟩; dsimp only
  have HO1 := Lib.hid (HO0.out.below hb)
  have HA1 := Lib.hid (HA0.out.below hb)
  clear hb
  go_wp2_with fail
  refine (put_1 _ _ _ _ HO1.out ahI rfl ⟨andW (orW (andW m.r.f 4053) 61442) 255, false⟩ ⟨and_lo _ _, and_hi _ _⟩).mono ?_
  rintro e w2 ⟨rfl, lv2, h2, f2, k2⟩; dsimp only
  have HO2 := Lib.hid h2
  have HA2 := Lib.hid (HA1.out.trans ⟨f2, k2⟩)
  clear h2 f2 k2
  go_wp2_with fail
  (first | go_end0 | (((try simp only [Exit.inBlock, Exit.then]); refine bodyPost_ret (results_none rfl _ _ _) rfl ?_)))
  exact ⟨rfl, After.mk HO2.out HA2.out⟩

set_option maxRecDepth 100000 in
set_option maxHeartbeats 1600000 in
theorem flags_44 (w : World) (C : Phys) (lv : Value) (m : Mach) (h : Own w C lv m) (r : IRow) (hn : r.name = 44) :
    Calls Tryz.prog 130 #[.pointer (some ⟨C.b, 0, none⟩), r.val] w fun e w' => e = .returned (.tuple #[]) ∧ After C lv w m.doSahf w' := by
  obtain ⟨name, ra, rb, rm⟩ := r
  dsimp only at hn
  subst hn
  have hs := flIn h ⟨44, ra, rb, rm⟩
  have hwf := h.wf.r
  clear h
  have xr := hs.r.row.cell
  go_enter Tryz.func130, Tryz.ntmps130
  go_wp2_with fail
  generalize w.alloc (.cells (rowC ⟨44, ra, rb, rm⟩) 47) = W0 at *
  have HO0 := Lib.hid hs.o
  have HA0 := Lib.hid hs.a
  clear hs xr
  have HD := Lib.hid (show m.doSahf = (m.getM ahI 1).setR { (m.getM ahI 1).r with f := orW (andNotW (m.getM ahI 1).r.f 255) (andW (andW (m.getV ahI 1 zeroV).v 255) 4053) } from rfl)
  refine (get_1 _ _ _ _ HO0.out ahI rfl zeroV).mono ?_
  rw [show (⟨m.r.byteV ahI.rm, false⟩ : V) = m.getV ahI 1 zeroV from rfl, show m.regByteM ahI.rm = m.getM ahI 1 from rfl]
  generalize m.getV ahI 1 zeroV = v at HD
  generalize m.getM ahI 1 = m1 at HD
  obtain ⟨vv, vt⟩ := v
  rintro e w2 ⟨rfl, lv2, h2, f2, k2⟩; dsimp only
  have HO2 := Lib.hid h2
  have HA2 := Lib.hid (HA0.out.trans ⟨f2, k2⟩)
  clear h2 f2 k2
  have sc := HO2.out.sees.c; have sf := HO2.out.sees.f; have sr := HO2.out.sees.r; have ss := HO2.out.sees.s; have sl := HO2.out.sees.l
  go_wp2_with fail
  (first | go_end0 | (((try simp only [Exit.inBlock, Exit.then]); refine bodyPost_ret (results_none rfl _ _ _) rfl ?_)))
  rw [HD.out]
  exact ⟨rfl, After.mk (HO2.out.setFl _ (or_lo _ _) (or_hi _ _)) (HA2.out.setB 25 _)⟩

set_option maxRecDepth 100000 in
set_option maxHeartbeats 1600000 in
theorem flags_37 (w : World) (C : Phys) (lv : Value) (m : Mach) (h : Own w C lv m) (r : IRow) (hn : r.name = 37) :
    Calls Tryz.prog 130 #[.pointer (some ⟨C.b, 0, none⟩), r.val] w fun e w' => e = .returned (.tuple #[]) ∧ After C lv w m.doCbw w' := by
  obtain ⟨name, ra, rb, rm⟩ := r
  dsimp only at hn
  subst hn
  have hs := flIn h ⟨37, ra, rb, rm⟩
  have hwf := h.wf.r
  clear h
  have xr := hs.r.row.cell
  have sr := hs.o.sees.r
  have sl := hs.o.row.lt
  go_enter Tryz.func130, Tryz.ntmps130
  go_wp2_with fail
  generalize w.alloc (.cells (rowC ⟨37, ra, rb, rm⟩) 47) = W0 at *
  have HO0 := Lib.hid hs.o
  have HA0 := Lib.hid hs.a
  have HR0 := Lib.hid hs.r
  have HV := Lib.hid hwf.g0
  have HWF := Lib.hid hwf
  clear hs xr hwf
  have HD := Lib.hid (show m.doCbw = (m.plain m.r.g0).setR (m.r.put 0 ⟨signW (m.r.g0.v % 256), false⟩) from rfl)
  refine (get_any m.r 0 _).mono ?_
  rw [show m.r.get 0 = m.r.g0 from rfl]
  clear sr sl
  rintro e w1 ⟨rfl, hb⟩; dsimp only
  have HO1 := Lib.hid (HO0.out.below hb)
  have HA1 := Lib.hid (HA0.out.below hb)
  have HR1 := Lib.hid (HR0.out.below hb)
  clear hb
  go_wp2_with fail
  refine (plain_any _ _ _ _ HO1.out m.r.g0).mono ?_
  have HR := Lib.hid (plain_r m m.r.g0)
  generalize m.plain m.r.g0 = m2 at HD HR
  rintro e w2 ⟨rfl, lv2, h2, f2, k2⟩; dsimp only
  have HO2 := Lib.hid h2
  have HA2 := Lib.hid (HA1.out.trans ⟨f2, k2⟩)
  have HR2 := Lib.hid (HR1.out.step f2 k2)
  clear h2 f2 k2
  have xr := HR2.out.row.cell
  have v0 := HV.out.1
  have v1 := HV.out.2
  have z0 : 0 ≤ m.r.g0.v % 256 := by omega
  have z1 : m.r.g0.v % 256 ≤ 255 := by omega
  go_wp2_with fail
  have sr := HO2.out.sees.r
  rw [HR.out] at sr
  clear xr
  refine range_of (w2) ?_; intro S inst ω hin hout
  have r1 := range_regs hin sr
  have k0 := range_call hin hout (fun w => (low_any m.r.g0.v w v0 v1).mono (fun e w' h => ⟨h.1, h.2 ▸ Below.refl _ _⟩))
  have k1 := range_call hin hout (fun w => (sign_any (m.r.g0.v % 256) w z0 z1).mono (fun e w' h => ⟨h.1, h.2 ▸ Below.refl _ _⟩))
  have k2 := range_call hin hout (put_any m.r 0 ⟨signW (m.r.g0.v % 256), false⟩)
  clear sr
  refine wp_region_tail_range ω 12 (by kernel_rfl) (by kernel_rfl) (hout _ (Below.refl _ _).drew) ?_; simp only [List.take_succ_cons, List.take_zero, List.drop_succ_cons, List.drop_zero]
  repeat (go_big_quiet_step (first | (with_reducible exact k0 _) | (with_reducible exact k1 _) | (with_reducible exact k2 _)))
  refine wpQuiet_nil ?_; intro _ hw'; obtain ⟨nq, rfl⟩ := hw'
  have HO3 := Lib.hid (HO2.out.below (hin nq))
  have HA3 := Lib.hid (HA2.out.below (hin nq))
  clear r1 k0 k1 k2
  generalize ω nq = w3 at HO3 HA3 ⊢
  have sc := HO3.out.sees.c; have sf := HO3.out.sees.f; have sr := HO3.out.sees.r; have ss := HO3.out.sees.s; have sl := HO3.out.sees.l
  have HZ := Lib.hid (show V.wf ⟨signW (m.r.g0.v % 256), false⟩ from ⟨signW_lo _ z0, signW_hi _ z1⟩)
  go_wp2_with fail
  (first | go_end0 | (((try simp only [Exit.inBlock, Exit.then]); refine bodyPost_ret (results_none rfl _ _ _) rfl ?_)))
  rw [HD.out]
  exact ⟨rfl, After.mk (HO3.out.putR _ (Regs.put_wf HWF.out 0 HZ.out)) (HA3.out.putR _)⟩

set_option maxRecDepth 100000 in
set_option maxHeartbeats 1600000 in
theorem flags_38 (w : World) (C : Phys) (lv : Value) (m : Mach) (h : Own w C lv m) (r : IRow) (hn : r.name = 38) :
    Calls Tryz.prog 130 #[.pointer (some ⟨C.b, 0, none⟩), r.val] w fun e w' => e = .returned (.tuple #[]) ∧ After C lv w m.doCwd w' := by
  obtain ⟨name, ra, rb, rm⟩ := r
  dsimp only at hn
  subst hn
  have hs := flIn h ⟨38, ra, rb, rm⟩
  have hwf := h.wf.r
  clear h
  have xr := hs.r.row.cell
  have sr := hs.o.sees.r
  have sl := hs.o.row.lt
  go_enter Tryz.func130, Tryz.ntmps130
  go_wp2_with fail
  generalize w.alloc (.cells (rowC ⟨38, ra, rb, rm⟩) 47) = W0 at *
  have HO0 := Lib.hid hs.o
  have HA0 := Lib.hid hs.a
  have HR0 := Lib.hid hs.r
  have HV := Lib.hid hwf.g0
  have HWF := Lib.hid hwf
  clear hs xr hwf
  have HD := Lib.hid (show m.doCwd = (m.plain m.r.g0).setR (m.r.put 2 ⟨spreadW m.r.g0.v, false⟩) from rfl)
  refine (get_any m.r 0 _).mono ?_
  rw [show m.r.get 0 = m.r.g0 from rfl]
  clear sr sl
  rintro e w1 ⟨rfl, hb⟩; dsimp only
  have HO1 := Lib.hid (HO0.out.below hb)
  have HA1 := Lib.hid (HA0.out.below hb)
  have HR1 := Lib.hid (HR0.out.below hb)
  clear hb
  go_wp2_with fail
  refine (plain_any _ _ _ _ HO1.out m.r.g0).mono ?_
  have HR := Lib.hid (plain_r m m.r.g0)
  generalize m.plain m.r.g0 = m2 at HD HR
  rintro e w2 ⟨rfl, lv2, h2, f2, k2⟩; dsimp only
  have HO2 := Lib.hid h2
  have HA2 := Lib.hid (HA1.out.trans ⟨f2, k2⟩)
  have HR2 := Lib.hid (HR1.out.step f2 k2)
  clear h2 f2 k2
  have xr := HR2.out.row.cell
  have v0 := HV.out.1
  have v1 := HV.out.2
  have sc := HO2.out.sees.c; have sf := HO2.out.sees.f; have sr := HO2.out.sees.r; have ss := HO2.out.sees.s; have sl := HO2.out.sees.l
  rw [HR.out] at sr
  go_wp2_with fail
  rw [spread_wrap m.r.g0.v v0 v1]
  have HZ := Lib.hid (show V.wf ⟨spreadW m.r.g0.v, false⟩ from spread_wf _)
  refine (put_any m.r 2 ⟨spreadW m.r.g0.v, false⟩ _).mono ?_
  rintro e w3 ⟨rfl, hb⟩; dsimp only
  have HO3 := Lib.hid (HO2.out.below hb)
  have HA3 := Lib.hid (HA2.out.below hb)
  clear sc sf sr ss sl; clear hb xr
  have sc := HO3.out.sees.c; have sf := HO3.out.sees.f; have sr := HO3.out.sees.r; have ss := HO3.out.sees.s; have sl := HO3.out.sees.l
  go_wp2_with fail
  (first | go_end0 | (((try simp only [Exit.inBlock, Exit.then]); refine bodyPost_ret (results_none rfl _ _ _) rfl ?_)))
  rw [HD.out]
  exact ⟨rfl, After.mk (HO3.out.putR _ (Regs.put_wf HWF.out 2 HZ.out)) (HA3.out.putR _)⟩
end Go.Proofs.YtcglkefaopgjeaaGreatDoor
