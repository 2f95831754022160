/- flow.near by a jump, flow.loop, flow.Do of jumps and loops. -/
import Derived.Test.YtcglkefaopgjeaaGreatDoorE1
import Derived.StillTailTactics
namespace Go.Proofs.YtcglkefaopgjeaaGreatDoor
set_option linter.unusedSimpArgs false
set_option linter.unusedVariables false
open Go.RowKit

structure Inst where
  lock : Bool
  rep : Int
  seg : Int
  op : Int
  mod : Int
  reg : Int
  rm : Int
  disp : Int
  imm : Int
  sel : Int
abbrev Inst.val (i : Inst) : Value := .agg #[.bool i.lock, .int .i64 i.rep, .int .i64 i.seg, .int .u8 i.op, .int .i64 i.mod, .int .i64 i.reg, .int .i64 i.rm, .int .u16 i.disp, .int .u16 i.imm, .int .u16 i.sel]
structure IRow where
  name : Int
  a : Int
  b : Int
  mod : Bool
abbrev IRow.val (r : IRow) : Value := .agg #[.int .i64 r.name, .int .i64 r.a, .int .i64 r.b, .bool r.mod]

set_option maxHeartbeats 800000 in
theorem near_jmp (w : World) (C : Phys) (lv : Value) (m : Mach) (h : Own w C lv m) (i : Inst) (r : IRow) (n : Int) (ha : (r.a == 2) = false) (hn : (r.name == 39) = false) :
    Calls Tryz.prog 118 #[.pointer (some ⟨C.b, 0, none⟩), i.val, r.val, .int .u16 n] w fun e w' => e = .returned (.tuple #[]) ∧ After C lv w (m.jump n) w' := by
  have HO0 := Lib.hid h; have HA0 := Lib.hid (Acc.refl C lv w); have sc := HO0.out.sees.c; have sf := HO0.out.sees.f; have sr := HO0.out.sees.r; have ss := HO0.out.sees.s; have sl := HO0.out.sees.l; clear h
  go_enter Tryz.func118, Tryz.ntmps118
  go_wp2_with fail
  go_end0
  exact ⟨rfl, After.mk (((HO0.out.setIP _ (wrap16_lo _) (wrap16_hi _)).alloc _).alloc _) (((HA0.out.setB 24 _).alloc _).alloc _)⟩

def Mach.setF (m : Mach) (x : Int) : Mach := { m with r := { m.r with f := x } }
def Mach.setR (m : Mach) (r : Regs) : Mach := { m with r := r }

/-- What flow.Do knows when it has laid its four boxes. -/
structure DoIn (C : Phys) (lv : Value) (w : World) (m : Mach) (i : Inst) (r : IRow) (t s : V) (W0 : World) : Prop where
  o : Own W0 C lv m
  a : Acc C lv w lv W0
  b1 : Box C lv W0 w.heap.size #[.bool i.lock, .int .i64 i.rep, .int .i64 i.seg, .int .u8 i.op, .int .i64 i.mod, .int .i64 i.reg, .int .i64 i.rm, .int .u16 i.disp, .int .u16 i.imm, .int .u16 i.sel] 30
  b2 : Box C lv W0 (w.heap.size + 1) #[.int .i64 r.name, .int .i64 r.a, .int .i64 r.b, .bool r.mod] 47
  b3 : Box C lv W0 (w.heap.size + 1 + 1) #[.int .u16 t.v, .bool t.t] 24
  b4 : Box C lv W0 (w.heap.size + 1 + 1 + 1) #[.int .u16 s.v, .bool s.t] 24
theorem doIn (C : Phys) (lv : Value) (w : World) (m : Mach) (h : Own w C lv m) (i : Inst) (r : IRow) (t s : V) :
    DoIn C lv w m i r t s ((((w.alloc (.cells #[.bool i.lock, .int .i64 i.rep, .int .i64 i.seg, .int .u8 i.op, .int .i64 i.mod, .int .i64 i.reg, .int .i64 i.rm, .int .u16 i.disp, .int .u16 i.imm, .int .u16 i.sel] 30)).alloc (.cells #[.int .i64 r.name, .int .i64 r.a, .int .i64 r.b, .bool r.mod] 47)).alloc (.cells #[.int .u16 t.v, .bool t.t] 24)).alloc (.cells #[.int .u16 s.v, .bool s.t] 24)) := by
  have o1 := h.alloc (.cells #[.bool i.lock, .int .i64 i.rep, .int .i64 i.seg, .int .u8 i.op, .int .i64 i.mod, .int .i64 i.reg, .int .i64 i.rm, .int .u16 i.disp, .int .u16 i.imm, .int .u16 i.sel] 30)
  have o2 := o1.alloc (.cells #[.int .i64 r.name, .int .i64 r.a, .int .i64 r.b, .bool r.mod] 47)
  have o3 := o2.alloc (.cells #[.int .u16 t.v, .bool t.t] 24)
  have x2 := Box.new o1 #[.int .i64 r.name, .int .i64 r.a, .int .i64 r.b, .bool r.mod] 47
  have x3 := Box.new o2 #[.int .u16 t.v, .bool t.t] 24
  have x4 := Box.new o3 #[.int .u16 s.v, .bool s.t] 24
  rw [World.size_alloc] at x2
  rw [World.size_alloc, World.size_alloc] at x3
  rw [World.size_alloc, World.size_alloc, World.size_alloc] at x4
  exact ⟨o3.alloc _, ((((Acc.refl C lv w).alloc _).alloc _).alloc _).alloc _, (((Box.new h _ _).alloc _).alloc _).alloc _, (x2.alloc _).alloc _, x3.alloc _, x4⟩

theorem Own.seesd {w : World} {C : Phys} {lv : Value} {m : Mach} (h : Own w C lv m) : Sees w.drew C m := (h.drew).sees

set_option maxRecDepth 100000 in
set_option maxHeartbeats 1600000 in
theorem do_jcc (w : World) (C : Phys) (lv : Value) (m : Mach) (h : Own w C lv m) (i : Inst) (r : IRow) (n : Int) (sel : V) (h0 : 17 ≤ r.name) (h1 : r.name ≤ 32) :
    Calls Tryz.prog 74 #[.pointer (some ⟨C.b, 0, none⟩), i.val, r.val, (⟨n, false⟩ : V).val, sel.val] w fun e w' => e = .returned (.tuple #[]) ∧ After C lv w (if holdsB r.name m.r.f then m.jump n else m) w' := by
  obtain ⟨name, ra, rb, rm⟩ := r
  dsimp only at h0 h1
  have hd := doIn C lv w m h i ⟨name, ra, rb, rm⟩ ⟨n, false⟩ sel
  clear h
  cases hh : holdsB name m.r.f
  all_goals
    have HH := Lib.hid hh
    clear hh
    go_enter Tryz.func74, Tryz.ntmps74
    go_wp2_with fail
    generalize (((w.alloc (.cells #[.bool i.lock, .int .i64 i.rep, .int .i64 i.seg, .int .u8 i.op, .int .i64 i.mod, .int .i64 i.reg, .int .i64 i.rm, .int .u16 i.disp, .int .u16 i.imm, .int .u16 i.sel] 30)).alloc (.cells #[.int .i64 name, .int .i64 ra, .int .i64 rb, .bool rm] 47)).alloc (.cells #[.int .u16 n, .bool false] 24)).alloc (.cells #[.int .u16 sel.v, .bool sel.t] 24) = W0 at *
    have HO0 := Lib.hid hd.o
    have HA0 := Lib.hid hd.a
    have HB2 := Lib.hid hd.b2
    have HB3 := Lib.hid hd.b3
    have sc := HO0.out.sees.c; have sf := HO0.out.sees.f; have sr := HO0.out.sees.r; have ss := HO0.out.sees.s; have sl := HO0.out.sees.l
    have x2 := hd.b2.row.cell
    have x3 := hd.b3.row.cell
    clear hd
    go_still_tail 7, (by kernel_rfl)
    change wpList _ _ _ _ _ W0.drew
    have HO1 := Lib.hid HO0.out.drew
    have HA1 := Lib.hid HA0.out.drew
    have HC3 := Lib.hid HB3.out.drew
    clear sc sf sr ss sl
    clear x2 x3 HO0 HA0 HB2 HB3
    generalize W0.drew = W1 at *
    have sc := HO1.out.sees.c; have sf := HO1.out.sees.f; have sr := HO1.out.sees.r; have ss := HO1.out.sees.s; have sl := HO1.out.sees.l
    have x3 := HC3.out.row.cell
    go_wp2_with (first | (go_at_call 125; refine (holds_any _ _ _ (by omega) (by omega)).mono ?_; rw [HH.out]; rintro e w2 ⟨rfl, hb⟩; have HO2 := Lib.hid (HO1.out.below hb); have HA2 := Lib.hid (HA1.out.below hb); have HD3 := Lib.hid (HC3.out.below hb); clear x3; clear sc sf sr ss sl; clear hb; have sc := HO2.out.sees.c; have sf := HO2.out.sees.f; have sr := HO2.out.sees.r; have ss := HO2.out.sees.s; have sl := HO2.out.sees.l; have x3 := HD3.out.row.cell) | (go_at_call 115; refine (plain_yes _ _ _ _ HO2.out _).mono ?_; rintro e w3 ⟨rfl, hb⟩; have HO3 := Lib.hid (HO2.out.below hb); have HA3 := Lib.hid (HA2.out.below hb); clear x3; clear sc sf sr ss sl; clear hb; have sc := HO3.out.sees.c; have sf := HO3.out.sees.f; have sr := HO3.out.sees.r; have ss := HO3.out.sees.s; have sl := HO3.out.sees.l) | (go_at_call 126; refine (on_any _ _ _ _ HO3.out _).mono ?_; rintro e w4 ⟨rfl, lv4, h4, f4, k4⟩; have HO4 := Lib.hid h4; have HA4 := Lib.hid (HA3.out.trans ⟨f4, k4⟩); clear sc sf sr ss sl; clear h4 f4 k4))
    go_end0
    first | exact ⟨rfl, After.mk HO4.out HA4.out⟩ | exact ⟨rfl, After.mk HO2.out HA2.out⟩
end Go.Proofs.YtcglkefaopgjeaaGreatDoor
