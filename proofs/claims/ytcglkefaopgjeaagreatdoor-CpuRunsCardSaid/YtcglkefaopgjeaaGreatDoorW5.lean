/- Parts of the proof, in one text: YtcglkefaopgjeaaGreatDoorE2 YtcglkefaopgjeaaGreatDoorE3 YtcglkefaopgjeaaGreatDoorF0 YtcglkefaopgjeaaGreatDoorD5 YtcglkefaopgjeaaGreatDoorE6. Each part's own remark says what it proves; conditions: those of each theorem. -/
import Derived.Test.YtcglkefaopgjeaaGreatDoorW1
import Derived.Test.YtcglkefaopgjeaaGreatDoorW4
import Derived.StillTailTactics

/- flow.near by a jump, flow.loop, flow.Do of jumps and loops. -/
namespace Go.Proofs.YtcglkefaopgjeaaGreatDoor
set_option linter.unusedSimpArgs false
set_option linter.unusedVariables false
open Go.RowKit

structure Inst where
  lock : Bool
  rep : Int
  seg : Int
  op : Int
  mod : Int
  reg : Int
  rm : Int
  disp : Int
  imm : Int
  sel : Int
abbrev Inst.val (i : Inst) : Value := .agg #[.bool i.lock, .int .i64 i.rep, .int .i64 i.seg, .int .u8 i.op, .int .i64 i.mod, .int .i64 i.reg, .int .i64 i.rm, .int .u16 i.disp, .int .u16 i.imm, .int .u16 i.sel]
structure IRow where
  name : Int
  a : Int
  b : Int
  mod : Bool
abbrev IRow.val (r : IRow) : Value := .agg #[.int .i64 r.name, .int .i64 r.a, .int .i64 r.b, .bool r.mod]

set_option maxHeartbeats 800000 in
theorem near_jmp (w : World) (C : Phys) (lv : Value) (m : Mach) (h : Own w C lv m) (i : Inst) (r : IRow) (n : Int) (ha : (r.a == 2) = false) (hn : (r.name == 39) = false) :
    Calls Tryz.prog 118 #[.pointer (some ⟨C.b, 0, none⟩), i.val, r.val, .int .u16 n] w fun e w' => e = .returned (.tuple #[]) ∧ After C lv w (m.jump n) w' := by
  have HO0 := Lib.hid h; have HA0 := Lib.hid (Acc.refl C lv w); have sc := HO0.out.sees.c; have sf := HO0.out.sees.f; have sr := HO0.out.sees.r; have ss := HO0.out.sees.s; have sl := HO0.out.sees.l; clear h
  go_enter Tryz.func118, Tryz.ntmps118
  go_wp2_with fail
  go_end0
  exact ⟨rfl, After.mk (((HO0.out.setIP _ (wrap16_lo _) (wrap16_hi _)).alloc _).alloc _) (((HA0.out.setB 24 _).alloc _).alloc _)⟩

def Mach.setF (m : Mach) (x : Int) : Mach := { m with r := { m.r with f := x } }
def Mach.setR (m : Mach) (r : Regs) : Mach := { m with r := r }

/-- What flow.Do knows when it has laid its four boxes. -/
structure DoIn (C : Phys) (lv : Value) (w : World) (m : Mach) (i : Inst) (r : IRow) (t s : V) (W0 : World) : Prop where
  o : Own W0 C lv m
  a : Acc C lv w lv W0
  b1 : Box C lv W0 w.heap.size #[.bool i.lock, .int .i64 i.rep, .int .i64 i.seg, .int .u8 i.op, .int .i64 i.mod, .int .i64 i.reg, .int .i64 i.rm, .int .u16 i.disp, .int .u16 i.imm, .int .u16 i.sel] 30
  b2 : Box C lv W0 (w.heap.size + 1) #[.int .i64 r.name, .int .i64 r.a, .int .i64 r.b, .bool r.mod] 47
  b3 : Box C lv W0 (w.heap.size + 1 + 1) #[.int .u16 t.v, .bool t.t] 24
  b4 : Box C lv W0 (w.heap.size + 1 + 1 + 1) #[.int .u16 s.v, .bool s.t] 24
theorem doIn (C : Phys) (lv : Value) (w : World) (m : Mach) (h : Own w C lv m) (i : Inst) (r : IRow) (t s : V) :
    DoIn C lv w m i r t s ((((w.alloc (.cells #[.bool i.lock, .int .i64 i.rep, .int .i64 i.seg, .int .u8 i.op, .int .i64 i.mod, .int .i64 i.reg, .int .i64 i.rm, .int .u16 i.disp, .int .u16 i.imm, .int .u16 i.sel] 30)).alloc (.cells #[.int .i64 r.name, .int .i64 r.a, .int .i64 r.b, .bool r.mod] 47)).alloc (.cells #[.int .u16 t.v, .bool t.t] 24)).alloc (.cells #[.int .u16 s.v, .bool s.t] 24)) := by
  have o1 := h.alloc (.cells #[.bool i.lock, .int .i64 i.rep, .int .i64 i.seg, .int .u8 i.op, .int .i64 i.mod, .int .i64 i.reg, .int .i64 i.rm, .int .u16 i.disp, .int .u16 i.imm, .int .u16 i.sel] 30)
  have o2 := o1.alloc (.cells #[.int .i64 r.name, .int .i64 r.a, .int .i64 r.b, .bool r.mod] 47)
  have o3 := o2.alloc (.cells #[.int .u16 t.v, .bool t.t] 24)
  have x2 := Box.new o1 #[.int .i64 r.name, .int .i64 r.a, .int .i64 r.b, .bool r.mod] 47
  have x3 := Box.new o2 #[.int .u16 t.v, .bool t.t] 24
  have x4 := Box.new o3 #[.int .u16 s.v, .bool s.t] 24
  rw [World.size_alloc] at x2
  rw [World.size_alloc, World.size_alloc] at x3
  rw [World.size_alloc, World.size_alloc, World.size_alloc] at x4
  exact ⟨o3.alloc _, ((((Acc.refl C lv w).alloc _).alloc _).alloc _).alloc _, (((Box.new h _ _).alloc _).alloc _).alloc _, (x2.alloc _).alloc _, x3.alloc _, x4⟩

theorem Own.seesd {w : World} {C : Phys} {lv : Value} {m : Mach} (h : Own w C lv m) : Sees w.drew C m := (h.drew).sees

set_option maxRecDepth 100000 in
set_option maxHeartbeats 1600000 in
theorem do_jcc (w : World) (C : Phys) (lv : Value) (m : Mach) (h : Own w C lv m) (i : Inst) (r : IRow) (n : Int) (sel : V) (h0 : 17 ≤ r.name) (h1 : r.name ≤ 32) :
    Calls Tryz.prog 74 #[.pointer (some ⟨C.b, 0, none⟩), i.val, r.val, (⟨n, false⟩ : V).val, sel.val] w fun e w' => e = .returned (.tuple #[]) ∧ After C lv w (if holdsB r.name m.r.f then m.jump n else m) w' := by
  obtain ⟨name, ra, rb, rm⟩ := r
  dsimp only at h0 h1
  have hd := doIn C lv w m h i ⟨name, ra, rb, rm⟩ ⟨n, false⟩ sel
  clear h
  cases hh : holdsB name m.r.f
  all_goals
    have HH := Lib.hid hh
    clear hh
    go_enter Tryz.func74, Tryz.ntmps74
    go_wp2_with fail
    generalize (((w.alloc (.cells #[.bool i.lock, .int .i64 i.rep, .int .i64 i.seg, .int .u8 i.op, .int .i64 i.mod, .int .i64 i.reg, .int .i64 i.rm, .int .u16 i.disp, .int .u16 i.imm, .int .u16 i.sel] 30)).alloc (.cells #[.int .i64 name, .int .i64 ra, .int .i64 rb, .bool rm] 47)).alloc (.cells #[.int .u16 n, .bool false] 24)).alloc (.cells #[.int .u16 sel.v, .bool sel.t] 24) = W0 at *
    have HO0 := Lib.hid hd.o
    have HA0 := Lib.hid hd.a
    have HB2 := Lib.hid hd.b2
    have HB3 := Lib.hid hd.b3
    have sc := HO0.out.sees.c; have sf := HO0.out.sees.f; have sr := HO0.out.sees.r; have ss := HO0.out.sees.s; have sl := HO0.out.sees.l
    have x2 := hd.b2.row.cell
    have x3 := hd.b3.row.cell
    clear hd
    go_still_tail 7, (by kernel_rfl)
    change wpList _ _ _ _ _ W0.drew
    have HO1 := Lib.hid HO0.out.drew
    have HA1 := Lib.hid HA0.out.drew
    have HC3 := Lib.hid HB3.out.drew
    clear sc sf sr ss sl
    clear x2 x3 HO0 HA0 HB2 HB3
    generalize W0.drew = W1 at *
    have sc := HO1.out.sees.c; have sf := HO1.out.sees.f; have sr := HO1.out.sees.r; have ss := HO1.out.sees.s; have sl := HO1.out.sees.l
    have x3 := HC3.out.row.cell
    go_wp2_with (first | (go_at_call 125; refine (holds_any _ _ _ (by omega) (by omega)).mono ?_; rw [HH.out]; rintro e w2 ⟨rfl, hb⟩; have HO2 := Lib.hid (HO1.out.below hb); have HA2 := Lib.hid (HA1.out.below hb); have HD3 := Lib.hid (HC3.out.below hb); clear x3; clear sc sf sr ss sl; clear hb; have sc := HO2.out.sees.c; have sf := HO2.out.sees.f; have sr := HO2.out.sees.r; have ss := HO2.out.sees.s; have sl := HO2.out.sees.l; have x3 := HD3.out.row.cell) | (go_at_call 115; refine (plain_yes _ _ _ _ HO2.out _).mono ?_; rintro e w3 ⟨rfl, hb⟩; have HO3 := Lib.hid (HO2.out.below hb); have HA3 := Lib.hid (HA2.out.below hb); clear x3; clear sc sf sr ss sl; clear hb; have sc := HO3.out.sees.c; have sf := HO3.out.sees.f; have sr := HO3.out.sees.r; have ss := HO3.out.sees.s; have sl := HO3.out.sees.l) | (go_at_call 126; refine (on_any _ _ _ _ HO3.out _).mono ?_; rintro e w4 ⟨rfl, lv4, h4, f4, k4⟩; have HO4 := Lib.hid h4; have HA4 := Lib.hid (HA3.out.trans ⟨f4, k4⟩); clear sc sf sr ss sl; clear h4 f4 k4))
    go_end0
    first | exact ⟨rfl, After.mk HO4.out HA4.out⟩ | exact ⟨rfl, After.mk HO2.out HA2.out⟩
end Go.Proofs.YtcglkefaopgjeaaGreatDoor

/- flow.Do of a jump; flow.loop; flow.Do of loops. -/
namespace Go.Proofs.YtcglkefaopgjeaaGreatDoor
set_option linter.unusedSimpArgs false
set_option linter.unusedVariables false
open Go.RowKit

set_option maxRecDepth 100000 in
set_option maxHeartbeats 1600000 in
theorem do_jmp (w : World) (C : Phys) (lv : Value) (m : Mach) (h : Own w C lv m) (i : Inst) (r : IRow) (n : Int) (sel : V) (h0 : r.name = 80) (h1 : r.a = 9) :
    Calls Tryz.prog 74 #[.pointer (some ⟨C.b, 0, none⟩), i.val, r.val, (⟨n, false⟩ : V).val, sel.val] w fun e w' => e = .returned (.tuple #[]) ∧ After C lv w (m.jump n) w' := by
  obtain ⟨name, ra, rb, rm⟩ := r
  dsimp only at h0 h1
  subst h0 h1
  have hd := doIn C lv w m h i ⟨80, 9, rb, rm⟩ ⟨n, false⟩ sel
  clear h
  go_enter Tryz.func74, Tryz.ntmps74
  go_wp2_with fail
  generalize (((w.alloc (.cells #[.bool i.lock, .int .i64 i.rep, .int .i64 i.seg, .int .u8 i.op, .int .i64 i.mod, .int .i64 i.reg, .int .i64 i.rm, .int .u16 i.disp, .int .u16 i.imm, .int .u16 i.sel] 30)).alloc (.cells #[.int .i64 80, .int .i64 9, .int .i64 rb, .bool rm] 47)).alloc (.cells #[.int .u16 n, .bool false] 24)).alloc (.cells #[.int .u16 sel.v, .bool sel.t] 24) = W0 at *
  have HO0 := Lib.hid hd.o
  have HA0 := Lib.hid hd.a
  have HB1 := Lib.hid hd.b1
  have HB2 := Lib.hid hd.b2
  have HB3 := Lib.hid hd.b3
  have sc := HO0.out.sees.c; have sf := HO0.out.sees.f; have sr := HO0.out.sees.r; have ss := HO0.out.sees.s; have sl := HO0.out.sees.l
  have x1 := hd.b1.row.cell
  have x2 := hd.b2.row.cell
  have x3 := hd.b3.row.cell
  clear hd
  go_region_held3 (fun w' => (∀ j, w'.cell? ⟨w.heap.size, j, none⟩ = #[.bool i.lock, .int .i64 i.rep, .int .i64 i.seg, .int .u8 i.op, .int .i64 i.mod, .int .i64 i.reg, .int .i64 i.rm, .int .u16 i.disp, .int .u16 i.imm, .int .u16 i.sel][j]?) ∧ (∀ j, w'.cell? ⟨w.heap.size + 1, j, none⟩ = #[.int .i64 80, .int .i64 9, .int .i64 rb, .bool rm][j]?) ∧ (∀ j, w'.cell? ⟨w.heap.size + 1 + 1, j, none⟩ = #[.int .u16 n, .bool false][j]?)) (go_keep) (first | (go_at_call 115; refine (plain_yes _ C lv m HO0.out.drew n).mono ?_; rintro e w1 ⟨rfl, hb⟩; have y1 := (HB1.out.drew.below hb).row.cell; have y2 := (HB2.out.drew.below hb).row.cell; have y3 := (HB3.out.drew.below hb).row.cell; have HC1 := Lib.hid (HB1.out.drew.below hb); have HC2 := Lib.hid (HB2.out.drew.below hb); have HC3 := Lib.hid (HB3.out.drew.below hb); have HO1 := Lib.hid (HO0.out.drew.below hb); have HA1 := Lib.hid (HA0.out.drew.below hb); clear hb) | (go_at_call 118; refine (near_jmp _ C lv m HO1.out i ⟨80, 9, rb, rm⟩ n rfl rfl).mono ?_; rintro e w2 ⟨rfl, lv2, h2, f2, k2⟩; have z1 := (HC1.out.step f2 k2).row.cell; have z2 := (HC2.out.step f2 k2).row.cell; have z3 := (HC3.out.step f2 k2).row.cell; have HO2 := Lib.hid h2; have HA2 := Lib.hid (HA1.out.trans ⟨f2, k2⟩); clear h2 f2 k2))
  all_goals go_wp2_with fail
  all_goals
    go_end0
    exact ⟨rfl, After.mk HO2.out HA2.out⟩

end Go.Proofs.YtcglkefaopgjeaaGreatDoor

/- core.New; the law's own begin and set. -/
namespace Go.Proofs.YtcglkefaopgjeaaGreatDoor
set_option linter.unusedSimpArgs false
set_option linter.unusedVariables false
open Go.RowKit

def NewM (w : World) (mb bb tb wb : Nat) (ra : Option Nat) (m : Mach) (e : Ending) (w' : World) : Prop :=
  ∃ C : Phys, e = .returned (.pointer (some ⟨C.b, 0, none⟩)) ∧ Own w' C (.slice none 0 0) m ∧ Below w.heap.size w w' ∧ C.b = w.heap.size ∧ C.mb = mb ∧ C.bb = bb ∧ C.tb = tb ∧ C.wb = wb ∧ C.ra = ra

def zV : V := ⟨0, false⟩
def zeroR : Regs := ⟨zV, zV, zV, zV, zV, zV, zV, zV, zV, zV, zV, zV, 0, 0⟩
theorem zeroR_wf : zeroR.wf := by
  have z : zV.wf := ⟨by decide, by decide⟩
  exact ⟨z, z, z, z, z, z, z, z, z, z, z, z, ⟨by decide, by decide⟩, ⟨by decide, by decide⟩⟩

set_option maxRecDepth 100000 in
set_option maxHeartbeats 800000 in
theorem coreNew_any (w : World) (mb bb tb : Nat) (f t : Nat → Int) (hm : MemAt w mb bb tb f t) (p : WPhys) (rs : List Int) (hw : WorldAt w p rs 0 []) (hlv : p.lv = .slice none 0 0) (hbase : p.base = w.heap.size)
    (d1 : mb ≠ p.wb) (d2 : bb ≠ p.wb) (d3 : tb ≠ p.wb) (d4 : ∀ g, p.ra = some g → g ≠ mb ∧ g ≠ bb ∧ g ≠ tb) (para size : Int) (h0 : 0 ≤ para) (h1 : para ≤ 65535) (h2 : 0 ≤ size) (h3 : size ≤ 1048576) :
    Calls Tryz.prog 51 #[.pointer (some ⟨mb, 0, none⟩), .pointer (some ⟨p.wb, 0, none⟩), .int .u16 para, .int .i64 size] w (NewM w mb bb tb p.wb p.ra ⟨zeroR, para * 16, size, 0, f, t, rs, 0, []⟩) := by
  have H := Lib.hid hm
  have HW := Lib.hid hw
  have D4 := Lib.hid d4
  clear hm hw d4
  go_enter Tryz.func51, Tryz.ntmps51
  go_wp2_with fail
  go_ret
  have hb : Below w.heap.size w (w.alloc (.cells (mcells ⟨w.heap.size, mb, bb, tb, p.wb, w.heap.size + 1, p.ra, p.rcap⟩ ⟨zeroR, para * 16, size, 0, f, t, rs, 0, []⟩) 44)) := (Below.refl _ _).alloc (Nat.le_refl _) _
  have hmm := H.out.below hb
  have hww := HW.out.below hb
  have m1 := H.out.r.lt
  have m2 := H.out.b.lt
  have m3 := H.out.t.lt
  have m4 := HW.out.row.lt
  refine ⟨⟨w.heap.size, mb, bb, tb, p.wb, w.heap.size + 1, p.ra, p.rcap⟩, rfl, ⟨Row.new _ _ _, hmm, ?_, ⟨zeroR_wf, ⟨(by show 0 ≤ para * 16; omega), (by show para * 16 ≤ 1048560; omega)⟩, ⟨h2, h3⟩⟩, ?_, ?_, ?_, ?_, d1, d2, d3, ?_, ?_, ?_, ?_, ?_⟩, hb, rfl, rfl, rfl, rfl, rfl, rfl⟩
  · obtain ⟨wb, base, ra, rcap, lv⟩ := p
    dsimp only at hlv hbase
    subst hlv hbase
    refine ⟨hww.row, hww.rep, fun g hg => ⟨Nat.lt_succ_of_lt (HW.out.repB g hg).1, (HW.out.repB g hg).2⟩, World.ownsRow_nil _ _ _ _, Nat.lt_succ_of_lt m4, by simp, hww.le, hww.most, hww.big⟩
  · show w.heap.size ≠ mb; omega
  · show w.heap.size ≠ bb; omega
  · show w.heap.size ≠ tb; omega
  · show w.heap.size ≠ p.wb; omega
  · exact Nat.lt_succ_self _
  · show mb < w.heap.size + 1; omega
  · show bb < w.heap.size + 1; omega
  · show tb < w.heap.size + 1; omega
  · intro g hg
    have := (HW.out.repB g hg).1
    rw [hbase] at this
    exact ⟨by show g ≠ w.heap.size; omega, D4.out g hg⟩
end Go.Proofs.YtcglkefaopgjeaaGreatDoor

/- core.Machine.SetWord. -/
namespace Go.Proofs.YtcglkefaopgjeaaGreatDoor
set_option linter.unusedSimpArgs false
set_option linter.unusedVariables false
open Go.RowKit

def Mach.putWord (m : Mach) (seg : V) (off : Int) (v : V) : Mach := { m with mem := Go.Proofs.YtcglkefaopgjeaaGreatDoor.setF m.mem (lin seg.v off) (lin seg.v (succW off)) v.v, tag := setT m.tag (lin seg.v off) (lin seg.v (succW off)) v.t }
def Mach.setWordOk (m : Mach) (seg : V) (off : Int) (v : V) : Bool := m.owns seg off 2 && m.wordC seg off && !(v.t && off == 65535)
def Mach.setWord (m : Mach) (seg : V) (off : Int) (v : V) : Mach := if m.setWordOk seg off v then m.putWord seg off v else m.stuck

theorem Own.setMem {w w' : World} {C : Phys} {lv : Value} {m : Mach} {f t : Nat → Int} (h : Own w C lv m) (hf : Fr (ownM C.bb C.tb) w w') (hm : MemAt w' C.mb C.bb C.tb f t) : Own w' C lv { m with mem := f, tag := t } := by
  have nb : ¬ ownM C.bb C.tb C.b := by rintro (e | e); exact h.n2 e; exact h.n3 e
  have l3 := h.l3
  have l4 := h.l4
  refine ⟨hf.row h.row nb, hm, h.wor.kept hf (by rintro (e | e); exact h.n6 e.symm; exact h.n7 e.symm) (fun g hg => ?_) (fun g hg => ?_), ⟨h.wf.r, h.wf.base, h.wf.size⟩, h.n1, h.n2, h.n3, h.n4, h.n5, h.n6, h.n7, h.l1, h.l2, h.l3, h.l4, h.ra⟩
  · have := h.ra g hg
    rintro (e | e)
    · exact this.2.2.1 e
    · exact this.2.2.2 e
  · have := (h.lvlt hg).1
    rintro (e | e) <;> omega
theorem ownM_own (C : Phys) (lv : Value) : ∀ k, ownM C.bb C.tb k → C.own lv k := by
  rintro k (e | e)
  · exact Or.inr (Or.inl e)
  · exact Or.inr (Or.inr (Or.inl e))
theorem Acc.setMem {C : Phys} {lv lv1 : Value} {w w1 w2 : World} (h : Acc C lv w lv1 w1) (hf : Fr (ownM C.bb C.tb) w1 w2) : Acc C lv w lv1 w2 := ⟨h.f.trans (hf.mono (ownM_own C lv)), h.k⟩

set_option maxRecDepth 100000 in
set_option maxHeartbeats 1600000 in
theorem setWord_any (w : World) (C : Phys) (lv : Value) (m : Mach) (h : Own w C lv m) (seg : V) (off : Int) (v : V) (hs : seg.wf) (h0 : 0 ≤ off) (h1 : off ≤ 65535) (hv : v.wf) :
    Calls Tryz.prog 173 #[.pointer (some ⟨C.b, 0, none⟩), P3 seg off, v.val] w fun e w' => e = .returned (.tuple #[]) ∧ After C lv w (m.setWord seg off v) w' := by
  have ho := (h.alloc (.cells #[.int .u16 seg.v, .bool seg.t, .int .u16 off] 52)).alloc (.cells #[.int .u16 v.v, .bool v.t] 24)
  have ha := ((Acc.refl C lv w).alloc (.cells #[.int .u16 seg.v, .bool seg.t, .int .u16 off] 52)).alloc (.cells #[.int .u16 v.v, .bool v.t] 24)
  have hx := (Box.new h #[.int .u16 seg.v, .bool seg.t, .int .u16 off] 52).alloc (.cells #[.int .u16 v.v, .bool v.t] 24)
  have hy := Box.new (h.alloc (.cells #[.int .u16 seg.v, .bool seg.t, .int .u16 off] 52)) #[.int .u16 v.v, .bool v.t] 24
  rw [World.size_alloc] at hy
  have s0 := hs.1
  have s1 := hs.2
  have v0 := hv.1
  have v1 := hv.2
  go_enter Tryz.func173, Tryz.ntmps173
  go_wp2_with fail
  generalize (w.alloc (.cells #[.int .u16 seg.v, .bool seg.t, .int .u16 off] 52)).alloc (.cells #[.int .u16 v.v, .bool v.t] 24) = W0 at *
  have c26 : W0.cell? ⟨C.b, 26, none⟩ = some (.pointer (some ⟨C.mb, 0, none⟩)) := (ho.row.cell 26).trans (mcell26 C m)
  have x0 : W0.cell? ⟨w.heap.size, 0, none⟩ = some (.int .u16 seg.v) := hx.row.cell 0
  have x2 : W0.cell? ⟨w.heap.size, 2, none⟩ = some (.int .u16 off) := hx.row.cell 2
  have HO := Lib.hid ho
  have HA := Lib.hid ha
  have HX := Lib.hid hx
  have HY := Lib.hid hy
  have HM := Lib.hid ho.mem
  have lb := ho.row.lt
  have lx := hx.row.lt
  have ne1 : ¬ C.b = W0.heap.size := by omega
  have ne2 : ¬ W0.heap.size = C.b := by omega
  have ne3 : ¬ w.heap.size = W0.heap.size := by omega
  have ne4 : ¬ W0.heap.size = w.heap.size := by omega
  clear ho ha hx hy h
  go_cut [6, 7] (fun s6 s7 wx => s7 = .bool (m.wordC seg off) ∧ Below W0.heap.size W0 wx)
  case first =>
    go_region_held3 (fun w' => w'.cell? ⟨C.b, 26, none⟩ = some (.pointer (some ⟨C.mb, 0, none⟩)) ∧ w'.cell? ⟨w.heap.size, 0, none⟩ = some (.int .u16 seg.v) ∧ w'.cell? ⟨w.heap.size, 2, none⟩ = some (.int .u16 off)) (go_keep) ((go_at_call 63; refine (memWord_any C.mb C.bb C.tb m.mem m.tag _ (by repeat (first | exact HM.out | refine MemAt.alloc ?_ _ | refine MemAt.drew ?_ | refine MemAt.drewN ?_)) seg.v off s0 s1 h0 h1).mono ?_; rintro e w1 ⟨rfl, hb1⟩; have y0 := (hb1.cell (p := ⟨C.b, 26, none⟩) (by have := HO.out.row.lt; simp <;> omega)); have y1 := (hb1.cell (p := ⟨w.heap.size, 0, none⟩) (by have := HX.out.row.lt; simp <;> omega)); have y2 := (hb1.cell (p := ⟨w.heap.size, 2, none⟩) (by have := HX.out.row.lt; simp <;> omega)); simp [World.cell?_alloc_some, c26, x0, x2] at y0 y1 y2; have z0 : ∀ j, W0.heap.size < _ → w1.cell? ⟨W0.heap.size, j, none⟩ = _ := fun j hj => hb1.cell hj; have z1 : ∀ j, W0.heap.size < _ → w1.frozen? ⟨W0.heap.size, j, none⟩ = _ := fun j hj => hb1.frozen hj; have z2 := hb1.size; simp at z2; have HB1 := Lib.hid hb1; clear hb1))
    · go_wp2_with fail
      go_meet
      have hb2 := (Below.refl W0.heap.size W0).drew.trans HB1.out
      exact ⟨rfl, hb2.alloc hb2.size _⟩
    · go_wp2_with fail
      go_meet
      have hb2 := (((Below.refl W0.heap.size W0).alloc (Nat.le_refl _) _).drew).trans (HB1.out.mono (by simp))
      exact ⟨rfl, (hb2.setCell (Nat.le_refl _) _).setCell (Nat.le_refl _) _⟩
  case rest =>
    obtain ⟨rfl, hbw⟩ := hcut
    have HO1 := Lib.hid (HO.out.below hbw)
    have HA1 := Lib.hid (HA.out.below hbw)
    have HX1 := Lib.hid (HX.out.below hbw)
    have HY1 := Lib.hid (HY.out.below hbw)
    have z1 := HX1.out.row.cell
    have z2 := HY1.out.row.cell
    clear c26 x0 x2 ne1 ne2 ne3 ne4 lb lx hbw HO HX HY HA HM
    go_wp2_with fail
    refine (Own_any _ _ _ _ HO1.out seg off hs 2 (by decide)).mono ?_
    rintro e w2 ⟨rfl, hb2⟩; dsimp only
    have HO2 := Lib.hid (HO1.out.below hb2)
    have HA2 := Lib.hid (HA1.out.below hb2)
    have HX2 := Lib.hid (HX1.out.below hb2)
    have HY2 := Lib.hid (HY1.out.below hb2)
    clear z1 z2 hb2
    have z1 := HX2.out.row.cell
    have z2 := HY2.out.row.cell
    have c26 : w2.cell? ⟨C.b, 26, none⟩ = some (.pointer (some ⟨C.mb, 0, none⟩)) := (HO2.out.row.cell 26).trans (mcell26 C m)
    obtain ⟨ok, hok⟩ : ∃ ok, m.owns seg off 2 = ok := ⟨_, rfl⟩
    obtain ⟨cl, hcl⟩ : ∃ cl, m.wordC seg off = cl := ⟨_, rfl⟩
    obtain ⟨eg, heg⟩ : ∃ eg, (off == 65535) = eg := ⟨_, rfl⟩
    have HS := Lib.hid (show m.setWord seg off v = if (ok && cl && !(v.t && eg)) then m.putWord seg off v else m.stuck by rw [Mach.setWord, Mach.setWordOk, hok, hcl, heg])
    rw [hok, hcl]
    clear hok hcl
    obtain ⟨vv, vt⟩ := v
    dsimp only at v0 v1 z2
    cases ok <;> cases cl <;> cases vt <;> cases eg
    case true.true.false.false =>
      have HS2 := Lib.hid (show _ = m.putWord seg off ⟨vv, _⟩ from HS.out)
      clear HS
      go_wp2_with fail
      go_still_tail 10, (by kernel_rfl)
      change wpList _ _ _ _ _ w2.drew
      have HO3 := Lib.hid HO2.out.drew
      have HA3 := Lib.hid HA2.out.drew
      have HX3 := Lib.hid HX2.out.drew
      have HY3 := Lib.hid HY2.out.drew
      clear z1 z2 c26
      generalize w2.drew = w3 at *
      have z1 := HX3.out.row.cell
      have z2 := HY3.out.row.cell
      have c26 : w3.cell? ⟨C.b, 26, none⟩ = some (.pointer (some ⟨C.mb, 0, none⟩)) := (HO3.out.row.cell 26).trans (mcell26 C m)
      go_wp2_with fail
      refine (memSetWord_any C.mb C.bb C.tb m.mem m.tag _ HO3.out.mem seg.v off s0 s1 h0 h1 ⟨vv, _⟩ v0 v1).mono ?_
      rintro e w4 ⟨rfl, hm4, f4⟩; dsimp only
      have HO4 := Lib.hid (HO3.out.setMem f4 hm4)
      have HA4 := Lib.hid (HA3.out.setMem f4)
      clear hm4 f4
      go_wp2_with fail
      go_end0
      rw [HS2.out]
      exact ⟨rfl, After.mk HO4.out HA4.out⟩
    case true.true.false.true =>
      have HS2 := Lib.hid (show _ = m.putWord seg off ⟨vv, _⟩ from HS.out)
      clear HS
      go_wp2_with fail
      go_still_tail 10, (by kernel_rfl)
      change wpList _ _ _ _ _ w2.drew
      have HO3 := Lib.hid HO2.out.drew
      have HA3 := Lib.hid HA2.out.drew
      have HX3 := Lib.hid HX2.out.drew
      have HY3 := Lib.hid HY2.out.drew
      clear z1 z2 c26
      generalize w2.drew = w3 at *
      have z1 := HX3.out.row.cell
      have z2 := HY3.out.row.cell
      have c26 : w3.cell? ⟨C.b, 26, none⟩ = some (.pointer (some ⟨C.mb, 0, none⟩)) := (HO3.out.row.cell 26).trans (mcell26 C m)
      go_wp2_with fail
      refine (memSetWord_any C.mb C.bb C.tb m.mem m.tag _ HO3.out.mem seg.v off s0 s1 h0 h1 ⟨vv, _⟩ v0 v1).mono ?_
      rintro e w4 ⟨rfl, hm4, f4⟩; dsimp only
      have HO4 := Lib.hid (HO3.out.setMem f4 hm4)
      have HA4 := Lib.hid (HA3.out.setMem f4)
      clear hm4 f4
      go_wp2_with fail
      go_end0
      rw [HS2.out]
      exact ⟨rfl, After.mk HO4.out HA4.out⟩
    case true.true.true.false =>
      have HS2 := Lib.hid (show _ = m.putWord seg off ⟨vv, _⟩ from HS.out)
      clear HS
      go_wp2_with fail
      go_still_tail 10, (by kernel_rfl)
      change wpList _ _ _ _ _ w2.drew
      have HO3 := Lib.hid HO2.out.drew
      have HA3 := Lib.hid HA2.out.drew
      have HX3 := Lib.hid HX2.out.drew
      have HY3 := Lib.hid HY2.out.drew
      clear z1 z2 c26
      generalize w2.drew = w3 at *
      have z1 := HX3.out.row.cell
      have z2 := HY3.out.row.cell
      have c26 : w3.cell? ⟨C.b, 26, none⟩ = some (.pointer (some ⟨C.mb, 0, none⟩)) := (HO3.out.row.cell 26).trans (mcell26 C m)
      go_wp2_with fail
      refine (memSetWord_any C.mb C.bb C.tb m.mem m.tag _ HO3.out.mem seg.v off s0 s1 h0 h1 ⟨vv, _⟩ v0 v1).mono ?_
      rintro e w4 ⟨rfl, hm4, f4⟩; dsimp only
      have HO4 := Lib.hid (HO3.out.setMem f4 hm4)
      have HA4 := Lib.hid (HA3.out.setMem f4)
      clear hm4 f4
      go_wp2_with fail
      go_end0
      rw [HS2.out]
      exact ⟨rfl, After.mk HO4.out HA4.out⟩
    all_goals
      have HS2 := Lib.hid (show _ = m.stuck from HS.out)
      clear HS
      go_wp2_with (go_at_call 38; refine (stuck_any _ _ _ _ HO2.out).mono ?_; rintro e w3 ⟨rfl, lv3, h3, f3, k3⟩; have HO3 := Lib.hid h3; have HA3 := Lib.hid (HA2.out.trans ⟨f3, k3⟩); clear h3 f3 k3)
      ((try simp only [Exit.inBlock, Exit.then]); refine bodyPost_ret (results_none rfl _ _ _) rfl ?_)
      rw [HS2.out]
      exact ⟨rfl, After.mk HO3.out HA3.out⟩
end Go.Proofs.YtcglkefaopgjeaaGreatDoor

/- The stack: core.stack, Push, Pop. -/
namespace Go.Proofs.YtcglkefaopgjeaaGreatDoor
set_option linter.unusedSimpArgs false
set_option linter.unusedVariables false
open Go.RowKit

theorem stuck_r (m : Mach) : m.stuck.r = m.r := by unfold Mach.stuck; split <;> rfl
theorem plain_r (m : Mach) (x : V) : (m.plain x).r = m.r := by unfold Mach.plain; split; exact stuck_r m; rfl
theorem wordS_r (m : Mach) (seg : V) (off : Int) : (m.wordS seg off).r = m.r := by unfold Mach.wordS; split; rfl; exact stuck_r m
theorem setWord_r (m : Mach) (seg : V) (off : Int) (v : V) : (m.setWord seg off v).r = m.r := by unfold Mach.setWord; split; rfl; exact stuck_r m
theorem Regs.put4_wf {r : Regs} (h : r.wf) {x : V} (hx : x.wf) : (r.put 4 x).wf := by
  show ({ r with g4 := x } : Regs).wf
  exact { h with g4 := hx }
theorem Regs.put0_wf {r : Regs} (h : r.wf) {x : V} (hx : x.wf) : (r.put 0 x).wf := by
  show ({ r with g0 := x } : Regs).wf
  exact { h with g0 := hx }
theorem Regs.putSeg1_wf {r : Regs} (h : r.wf) {x : V} (hx : x.wf) : (r.putSeg 1 x).wf := by
  show ({ r with s1 := x } : Regs).wf
  exact { h with s1 := hx }

theorem Own.apart {w : World} {C : Phys} {lv : Value} {m : Mach} (h : Own w C lv m) {k : Nat} (hk : w.heap.size ≤ k) : C.mb ≠ k ∧ ∀ g, C.ra = some g → g ≠ k := by
  refine ⟨fun e => ?_, fun g hg e => ?_⟩
  · have := h.mem.r.lt; omega
  · have := (h.wor.repB g hg).1
    have := h.lt
    have h1 : C.base ≤ w.heap.size := h.lt
    have h2 : g < C.base := (h.wor.repB g hg).1
    omega
theorem Own.setBox {w : World} {C : Phys} {lv : Value} {m : Mach} (h : Own w C lv m) {p : Addr} (no : ¬ C.own lv p.block) (ap : C.mb ≠ p.block ∧ ∀ g, C.ra = some g → g ≠ p.block) (v : Value) : Own (w.setCell p v) C lv m :=
  h.kept (own := fun k => k = p.block) ((Fr.refl (fun k => k = p.block) w).setCell (p := p) rfl v) (fun e => no (Or.inl e.symm)) ap.1 (fun e => no (Or.inr (Or.inl e.symm))) (fun e => no (Or.inr (Or.inr (Or.inl e.symm)))) (fun e => no (Or.inr (Or.inr (Or.inr (Or.inl e.symm))))) ap.2 (fun k hk e => no (Or.inr (Or.inr (Or.inr (Or.inr (e ▸ hk))))))
theorem Fr.setNew {own : Nat → Prop} {a w : World} (h : Fr own a w) {p : Addr} (hp : a.heap.size ≤ p.block) (v : Value) : Fr own a (w.setCell p v) :=
  ⟨h.os, h.tape, h.output, by simpa using h.size, fun k hk ho => (Below.heap_setCell _ _ _ _ (by omega)).trans (h.block k hk ho)⟩
theorem Acc.setNew {C : Phys} {lv lv1 : Value} {w w1 : World} (h : Acc C lv w lv1 w1) {p : Addr} (hp : w.heap.size ≤ p.block) (v : Value) : Acc C lv w lv1 (w1.setCell p v) := ⟨h.f.setNew hp v, h.k⟩

def Mach.push (m : Mach) (v : V) : Mach :=
  let m1 := m.plain m.r.g4
  let sp := IntKind.u16.wrap (m.r.g4.v - 2)
  let m2 := m1.setWord m.r.s2 sp v
  m2.setR (m.r.put 4 ⟨sp, false⟩)
def Mach.popV (m : Mach) : V := (m.plain m.r.g4).wordV m.r.s2 m.r.g4.v
def Mach.popM (m : Mach) : Mach := ((m.plain m.r.g4).wordS m.r.s2 m.r.g4.v).setR (m.r.put 4 ⟨IntKind.u16.wrap (m.r.g4.v + 2), false⟩)

set_option maxRecDepth 100000 in
set_option maxHeartbeats 800000 in
theorem stack_any (w : World) (C : Phys) (lv : Value) (m : Mach) (h : Own w C lv m) (off : Int) :
    Calls Tryz.prog 174 #[.pointer (some ⟨C.b, 0, none⟩), .int .u16 off] w fun e w' => e = .returned (P3 m.r.s2 off) ∧ Below w.heap.size w w' := by
  have HO0 := Lib.hid h; have HA0 := Lib.hid (Acc.refl C lv w); have sc := HO0.out.sees.c; have sf := HO0.out.sees.f; have sr := HO0.out.sees.r; have ss := HO0.out.sees.s; have sl := HO0.out.sees.l; clear h
  go_enter Tryz.func174, Tryz.ntmps174
  go_wp2_with fail
  have HO1 := Lib.hid (HO0.out.alloc (.cells #[.int .u16 0, .bool false, .int .u16 0] 52))
  have hx := (Row.new w #[.int .u16 0, .bool false, .int .u16 0] 52)
  have HX := Lib.hid hx
  refine (seg_any _ _ _).mono ?_
  rw [show m.r.seg 2 = m.r.s2 from rfl]
  rintro e w1 ⟨rfl, hb⟩; dsimp only
  have hb0 : Below w.heap.size w w1 := ((Below.refl w.heap.size w).alloc (Nat.le_refl _) _).trans (hb.mono (by simp))
  have hy := Below.row hb hx hx.lt
  have HB := Lib.hid hb0
  have HY := Lib.hid hy
  clear sc sf sr ss sl
  clear hb hb0 hx
  have yc := hy.cell
  have yf := hy.frozen
  have yl := hy.lt
  clear hy
  go_wp2_with fail
  have hz := ((HY.out.setCell 0 (.int .u16 m.r.s2.v)).setCell 1 (.bool m.r.s2.t)).setCell 2 (.int .u16 off)
  refine bodyPost_ret (results_row rfl _ _ _ _ _ _ rfl hz Tryz.underlying52 rfl (by kernel_rfl)) rfl ⟨rfl, ?_⟩
  exact ((HB.out.setCell (Nat.le_refl _) _).setCell (Nat.le_refl _) _).setCell (Nat.le_refl _) _

set_option maxRecDepth 100000 in
set_option maxHeartbeats 1600000 in
theorem push_any (w : World) (C : Phys) (lv : Value) (m : Mach) (h : Own w C lv m) (v : V) (hv : v.wf) :
    Calls Tryz.prog 120 #[.pointer (some ⟨C.b, 0, none⟩), v.val] w fun e w' => e = .returned (.tuple #[]) ∧ After C lv w (m.push v) w' := by
  have HX0 := Lib.hid (Box.new h #[.int .u16 v.v, .bool v.t] 24)
  have HWF := Lib.hid h.wf.r
  have s2w := h.wf.r.s2
  have HO0 := Lib.hid h; have HA0 := Lib.hid (Acc.refl C lv w); have sc := HO0.out.sees.c; have sf := HO0.out.sees.f; have sr := HO0.out.sees.r; have ss := HO0.out.sees.s; have sl := HO0.out.sees.l; clear h
  go_enter Tryz.func120, Tryz.ntmps120
  go_wp2_with fail
  refine (get_any _ _ _).mono ?_
  rw [show m.r.get 4 = m.r.g4 from rfl]
  rintro e w1 ⟨rfl, hb⟩; dsimp only
  have HO1 := Lib.hid ((HO0.out.alloc _).below hb)
  have HA1 := Lib.hid ((HA0.out.alloc _).below hb)
  have HX1 := Lib.hid (HX0.out.below hb)
  clear sc sf sr ss sl; clear hb
  go_wp2_with fail
  refine (plain_any _ _ _ _ HO1.out m.r.g4).mono ?_
  rintro e w2 ⟨rfl, lv2, h2, f2, k2⟩; dsimp only
  have HR1 := Lib.hid (plain_r m m.r.g4)
  have HS1 := Lib.hid (show m.push v = ((m.plain m.r.g4).setWord m.r.s2 (IntKind.u16.wrap (m.r.g4.v - 2)) v).setR (m.r.put 4 ⟨IntKind.u16.wrap (m.r.g4.v - 2), false⟩) from rfl)
  generalize m.plain m.r.g4 = m1 at h2 HR1 HS1
  have HO2 := Lib.hid h2
  have HA2 := Lib.hid (HA1.out.trans ⟨f2, k2⟩)
  have HX2 := Lib.hid (HX1.out.step f2 k2)
  clear h2 f2 k2
  go_wp2_with fail
  have x3 := HX2.out.row.cell
  go_region_held3 (fun w' => ∀ j, w'.cell? ⟨w.heap.size, j, none⟩ = #[.int .u16 v.v, .bool v.t][j]?) (go_keep) (first | (go_at_call 174; refine (stack_any _ C lv2 m1 HO2.out.drew _).mono ?_; rw [HR1.out]; rintro e w3 ⟨rfl, hb⟩; have y1 := (HX2.out.drew.below hb).row.cell; have HO3 := Lib.hid (HO2.out.drew.below hb); have HA3 := Lib.hid (HA2.out.drew.below hb); have HX3 := Lib.hid (HX2.out.drew.below hb); clear hb) | (go_at_call 173; refine (setWord_any _ C lv2 m1 HO3.out m.r.s2 (IntKind.u16.wrap (m.r.g4.v - 2)) v s2w (wrap16_lo _) (wrap16_hi _) hv).mono ?_; rintro e w4 ⟨rfl, lv4, h4, f4, k4⟩; have z1 := (HX3.out.step f4 k4).row.cell; have HO4 := Lib.hid h4; have HA4 := Lib.hid (HA3.out.trans ⟨f4, k4⟩); clear h4 f4 k4))
  all_goals
    have HR4 := Lib.hid (setWord_r m1 m.r.s2 (IntKind.u16.wrap (m.r.g4.v - 2)) v)
    generalize m1.setWord m.r.s2 (IntKind.u16.wrap (m.r.g4.v - 2)) v = m4 at HS1 HO4 HR4
    have sc := HO4.out.sees.c; have sf := HO4.out.sees.f; have sr := HO4.out.sees.r; have ss := HO4.out.sees.s; have sl := HO4.out.sees.l
    rw [HR4.out, HR1.out] at sr
    go_wp2_with (go_at_call 116; refine (put_any _ _ ⟨IntKind.u16.wrap (m.r.g4.v - 2), false⟩ _).mono ?_; rintro e w5 ⟨rfl, hb⟩; have HO5 := Lib.hid (HO4.out.below hb); have HA5 := Lib.hid (HA4.out.below hb); clear sc sf sr ss sl; clear hb; have sc := HO5.out.sees.c; have sf := HO5.out.sees.f; have sr := HO5.out.sees.r; have ss := HO5.out.sees.s; have sl := HO5.out.sees.l)
    go_end0
    rw [HS1.out]
    exact ⟨rfl, After.mk (HO5.out.putR _ (Regs.put4_wf HWF.out ⟨wrap16_lo _, wrap16_hi _⟩)) (HA5.out.putR _)⟩

set_option maxRecDepth 100000 in
set_option maxHeartbeats 1600000 in
theorem pop_any (w : World) (C : Phys) (lv : Value) (m : Mach) (h : Own w C lv m) :
    Calls Tryz.prog 175 #[.pointer (some ⟨C.b, 0, none⟩)] w fun e w' => e = .returned m.popV.val ∧ After C lv w m.popM w' := by
  have HX0 := Lib.hid (Box.new h #[.int .u16 0, .bool false] 24)
  have HWF := Lib.hid h.wf.r
  have s2w := h.wf.r.s2
  have s4w := h.wf.r.g4
  have HO0 := Lib.hid h; have HA0 := Lib.hid (Acc.refl C lv w); have sc := HO0.out.sees.c; have sf := HO0.out.sees.f; have sr := HO0.out.sees.r; have ss := HO0.out.sees.s; have sl := HO0.out.sees.l; clear h
  go_enter Tryz.func175, Tryz.ntmps175
  go_wp2_with fail
  refine (get_any _ _ _).mono ?_
  rw [show m.r.get 4 = m.r.g4 from rfl]
  rintro e w1 ⟨rfl, hb⟩; dsimp only
  have HO1 := Lib.hid ((HO0.out.alloc _).below hb)
  have HA1 := Lib.hid ((HA0.out.alloc _).below hb)
  have HX1 := Lib.hid (HX0.out.below hb)
  clear sc sf sr ss sl; clear hb
  go_wp2_with fail
  refine (plain_any _ _ _ _ HO1.out m.r.g4).mono ?_
  rintro e w2 ⟨rfl, lv2, h2, f2, k2⟩; dsimp only
  have HR1 := Lib.hid (plain_r m m.r.g4)
  have HS1 := Lib.hid (show m.popM = ((m.plain m.r.g4).wordS m.r.s2 m.r.g4.v).setR (m.r.put 4 ⟨IntKind.u16.wrap (m.r.g4.v + 2), false⟩) from rfl)
  have HV1 := Lib.hid (show m.popV = (m.plain m.r.g4).wordV m.r.s2 m.r.g4.v from rfl)
  generalize m.plain m.r.g4 = m1 at h2 HR1 HS1 HV1
  have HO2 := Lib.hid h2
  have HA2 := Lib.hid (HA1.out.trans ⟨f2, k2⟩)
  have HX2 := Lib.hid (HX1.out.step f2 k2)
  clear h2 f2 k2
  go_wp2_with fail
  refine (stack_any _ _ _ _ HO2.out _).mono ?_
  rw [HR1.out]
  rintro e w3 ⟨rfl, hb⟩; dsimp only
  have HO3 := Lib.hid (HO2.out.below hb)
  have HA3 := Lib.hid (HA2.out.below hb)
  have HX3 := Lib.hid (HX2.out.below hb)
  clear hb
  go_wp2_with fail
  refine (word_any _ _ _ _ HO3.out m.r.s2 m.r.g4.v s2w s4w.1 s4w.2).mono ?_
  rintro e w4 ⟨rfl, lv4, h4, f4, k4⟩; dsimp only
  have HR4 := Lib.hid (wordS_r m1 m.r.s2 m.r.g4.v)
  generalize m1.wordV m.r.s2 m.r.g4.v = vv at HV1
  generalize m1.wordS m.r.s2 m.r.g4.v = m4 at HS1 h4 HR4
  have HO4 := Lib.hid h4
  have HA4 := Lib.hid (HA3.out.trans ⟨f4, k4⟩)
  have HX4 := Lib.hid (HX3.out.step f4 k4)
  clear h4 f4 k4
  have sc := HO4.out.sees.c; have sf := HO4.out.sees.f; have sr := HO4.out.sees.r; have ss := HO4.out.sees.s; have sl := HO4.out.sees.l
  rw [HR4.out, HR1.out] at sr
  go_wp2_with fail
  refine (put_any _ _ ⟨IntKind.u16.wrap (m.r.g4.v + 2), false⟩ _).mono ?_
  rintro e w5 ⟨rfl, hb⟩; dsimp only
  have HO5 := Lib.hid ((HO4.out.alloc _).below hb)
  have HA5 := Lib.hid ((HA4.out.alloc _).below hb)
  have hx := (HX4.out.alloc (.cells #[.int .u16 vv.v, .bool vv.t] 24)).below hb
  have hy := (Box.new HO4.out #[.int .u16 vv.v, .bool vv.t] 24).below hb
  have ne1 : w.heap.size ≠ C.b := fun e => hx.no (Or.inl e)
  have ne2 : w4.heap.size ≠ C.b := fun e => hy.no (Or.inl e)
  clear sc sf sr ss sl; clear hb
  have sc := HO5.out.sees.c; have sf := HO5.out.sees.f; have sr := HO5.out.sees.r; have ss := HO5.out.sees.s; have sl := HO5.out.sees.l
  have xc := hx.row.cell
  have xf := hx.row.frozen
  have yc := hy.row.cell
  have NE1 := Lib.hid ne1
  have HX5 := Lib.hid hx
  have xl := hx.row.lt
  clear hx hy
  go_wp2_with fail
  have hz := ((HX5.out.row.putR_other (m.r.put 4 ⟨IntKind.u16.wrap (m.r.g4.v + 2), false⟩) NE1.out).setCell 0 (.int .u16 vv.v)).setCell 1 (.bool vv.t)
  refine bodyPost_ret (v := vv.val) (results_row rfl _ _ _ _ _ _ rfl hz Tryz.underlying24 rfl (by kernel_rfl)) rfl ?_
  rw [HV1.out, HS1.out]
  have ap := HO0.out.apart (Nat.le_refl _)
  exact ⟨rfl, After.mk (((HO5.out.putR _ (Regs.put4_wf HWF.out ⟨wrap16_lo _, wrap16_hi _⟩)).setBox (p := ⟨w.heap.size, 0, none⟩) HX5.out.no ap _).setBox (p := ⟨w.heap.size, 1, none⟩) HX5.out.no ap _) (((HA5.out.putR _).setNew (p := ⟨w.heap.size, 0, none⟩) (Nat.le_refl _) _).setNew (p := ⟨w.heap.size, 1, none⟩) (Nat.le_refl _) _)⟩
end Go.Proofs.YtcglkefaopgjeaaGreatDoor
