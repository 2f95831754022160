/- Parts of the proof, in one text: YtcglkefaopgjeaaGreatDoorJC YtcglkefaopgjeaaGreatDoorF0 YtcglkefaopgjeaaGreatDoorK0 YtcglkefaopgjeaaGreatDoorL0 YtcglkefaopgjeaaGreatDoorG1 YtcglkefaopgjeaaGreatDoorL1 YtcglkefaopgjeaaGreatDoorL2 YtcglkefaopgjeaaGreatDoorL3. Each part's own remark says what it proves; conditions: those of each theorem. -/
import Derived.Test.YtcglkefaopgjeaaGreatDoorV3
import Derived.Test.YtcglkefaopgjeaaGreatDoorV9
import Derived.Test.YtcglkefaopgjeaaGreatDoorE3
import Derived.Test.YtcglkefaopgjeaaGreatDoorJ0
import Derived.Test.YtcglkefaopgjeaaGreatDoorV1
import Derived.Test.YtcglkefaopgjeaaGreatDoorB1
import Derived.Laws.StructEq

/- Package flow: Is; package cpu: Step, of what stands there and is neither repeated nor goes elsewhere. -/
namespace Go.Proofs.YtcglkefaopgjeaaGreatDoor
set_option linter.unusedSimpArgs false
set_option linter.unusedVariables false
open Go.RowKit

def isFlow (n : Int) : Bool := n == 39 || n == 40 || n == 80 || n == 81 || n == 56 || n == 57 || n == 60 || n == 61 || n == 62 || n == 76 || n == 75 || n == 74 || n == 77 || (decide (17 ≤ n) && decide (n ≤ 32))
set_option maxRecDepth 100000 in
set_option maxHeartbeats 1600000 in
theorem isFlow_no (n : Int) (w : World) (h : isFlow n = false) : Calls Tryz.prog 73 #[.int .i64 n] w fun e w' => e = .returned (.bool false) ∧ w = w' := by
  unfold isFlow at h
  simp only [Bool.or_eq_false_iff] at h
  obtain ⟨⟨⟨⟨⟨⟨⟨⟨⟨⟨⟨⟨⟨a1, a2⟩, a3⟩, a4⟩, a5⟩, a6⟩, a7⟩, a8⟩, a9⟩, a10⟩, a11⟩, a12⟩, a13⟩, a14⟩ := h
  by_cases h17 : 17 ≤ n
  · have b1 : decide (17 ≤ n) = true := decide_eq_true h17
    rw [b1, Bool.true_and] at a14
    have b2 : ¬ n ≤ 32 := of_decide_eq_false a14
    clear b1 a14
    go_enter Tryz.func73, Tryz.ntmps73
    go_wp2
    go_ret
    exact ⟨rfl, rfl⟩
  · have b1 : decide (17 ≤ n) = false := decide_eq_false h17
    clear a14 h17
    go_enter Tryz.func73, Tryz.ntmps73
    go_wp2
    go_ret
    exact ⟨rfl, rfl⟩

def Mach.on (m : Mach) (n : Nat) : Mach := { m with r := { m.r with ip := IntKind.u16.wrap (m.r.ip + n) } }

set_option maxRecDepth 100000 in
set_option maxHeartbeats 3200000 in
theorem step_any (w : World) (C : Phys) (lv : Value) (m m' : Mach) (h : Own w C lv m) (h0 : m.state = 0) (i : Inst) (n : Nat) (ht : takeF m.code = some (i, n)) (hp : m.plainB (-1) n = true) (hn : n ≤ 65535) (r : IRow) (hr : instRow i.op i.reg = some r)
    (hw : i.wf) (hrep : repsOf r.name = 0) (hfl : isFlow r.name = false)
    (hdo : ∀ (w : World) (lv : Value), Own w C lv (m.on n) → Calls Tryz.prog 75 #[.pointer (some ⟨C.b, 0, none⟩), i.val, r.val, V.val ⟨i.imm, false⟩] w fun e w' => e = .returned (.tuple #[]) ∧ After C lv w m' w') :
    Calls Tryz.prog 25 #[.pointer (some ⟨C.b, 0, none⟩)] w fun e w' => e = .returned (.bool true) ∧ After C lv w m' w' := by
  have hb0 : (m.state != 0) = false := by simp [h0]
  have HO0 := Lib.hid h
  have HDO := Lib.hid hdo
  have HR := Lib.hid hr
  have HT := Lib.hid ht
  have HP := Lib.hid hp
  have HREP := Lib.hid hrep
  have HFL := Lib.hid hfl
  clear h h0 hdo hr ht hp hrep hfl
  obtain ⟨rn, ra, rb, rm⟩ := r
  have ew : IntKind.u16.wrap (n : Int) = (n : Int) := by rw [IntKind.wrap_u16]; omega
  go_enter Tryz.func25, Tryz.ntmps25
  go_wp2_with fail
  refine (state_any _ _ _ _ HO0.out).mono ?_
  rintro e w' ⟨rfl, rfl⟩; dsimp only
  go_wp2_with fail
  refine (fetch_ok _ _ _ _ HO0.out i n HT.out HP.out).mono ?_
  rintro e w1 ⟨rfl, hb⟩; dsimp only
  have HO1 := Lib.hid (((HO0.out.below hb).alloc (.cells (instC i) 30)).alloc (.cells #[.int .u16 i.imm, .bool false] 24) |>.alloc (.cells #[.int .u16 i.sel, .bool false] 24))
  have HA1 := Lib.hid (((((Acc.refl C lv w).below hb).alloc (.cells (instC i) 30)).alloc (.cells #[.int .u16 i.imm, .bool false] 24)).alloc (.cells #[.int .u16 i.sel, .bool false] 24))
  have HI1 := Lib.hid (((Row.new w1 (instC i) 30).alloc (.cells #[.int .u16 i.imm, .bool false] 24)).alloc (.cells #[.int .u16 i.sel, .bool false] 24))
  have HV1 := Lib.hid ((Row.new' (w := w1.alloc (.cells (instC i) 30)) (n := w1.heap.size + 1) (cs := #[.int .u16 i.imm, .bool false]) (t := 24) (by simp)).alloc (.cells #[.int .u16 i.sel, .bool false] 24))
  have HS1 := Lib.hid (Row.new' (w := (w1.alloc (.cells (instC i) 30)).alloc (.cells #[.int .u16 i.imm, .bool false] 24)) (n := w1.heap.size + 1 + 1) (cs := #[.int .u16 i.sel, .bool false]) (t := 24) (by simp))
  have HB := Lib.hid (show C.b < w1.heap.size from Nat.lt_of_lt_of_le HO0.out.row.lt hb.size)
  clear hb
  go_wp2_with fail
  generalize ((w1.alloc (.cells (instC i) 30)).alloc (.cells #[.int .u16 i.imm, .bool false] 24)).alloc (.cells #[.int .u16 i.sel, .bool false] 24) = W1 at HO1 HA1 HI1 HV1 HS1 ⊢
  refine (instRow_any i _ hw.op.1 hw.op.2 hw.reg.1 hw.reg.2).mono ?_
  rw [HR.out, rowV_some]
  rintro e w2 ⟨rfl, hb⟩; dsimp only
  have HO2 := Lib.hid ((HO1.out.below hb).alloc (.cells #[.int .i64 rn, .int .i64 ra, .int .i64 rb, .bool rm] 47))
  have HA2 := Lib.hid ((HA1.out.below hb).alloc (.cells #[.int .i64 rn, .int .i64 ra, .int .i64 rb, .bool rm] 47))
  have HI2 := Lib.hid ((Below.row hb HI1.out HI1.out.lt).alloc (.cells #[.int .i64 rn, .int .i64 ra, .int .i64 rb, .bool rm] 47))
  have HV2 := Lib.hid ((Below.row hb HV1.out HV1.out.lt).alloc (.cells #[.int .i64 rn, .int .i64 ra, .int .i64 rb, .bool rm] 47))
  have HS2 := Lib.hid ((Below.row hb HS1.out HS1.out.lt).alloc (.cells #[.int .i64 rn, .int .i64 ra, .int .i64 rb, .bool rm] 47))
  have HR2 := Lib.hid (Row.new w2 #[.int .i64 rn, .int .i64 ra, .int .i64 rb, .bool rm] 47)
  have L2 := Lib.hid (Nat.lt_of_lt_of_le (Below.row hb HI1.out HI1.out.lt).lt (Nat.le_refl _))
  clear hb
  go_upto_region 7 with fail
  generalize w2.alloc (.cells #[.int .i64 rn, .int .i64 ra, .int .i64 rb, .bool rm] 47) = W2 at HO2 HA2 HI2 HV2 HS2 HR2 ⊢
  have sc := HO2.out.sees.c
  have sf := HO2.out.sees.f
  have sl := HO2.out.row.lt
  go_upto_region 10 with fail
  have ne1 : w1.heap.size ≠ C.b := Nat.ne_of_gt HB.out
  have ne2 : w1.heap.size + 1 ≠ C.b := by have := HB.out; omega
  have ne3 : w2.heap.size ≠ C.b := by have := HB.out; have := L2.out; omega
  have HO3 := Lib.hid (show Own _ C lv (m.on n) from HO2.out.setIP (IntKind.u16.wrap (m.r.ip + n)) (wrap16_lo _) (wrap16_hi _))
  have HA3 := Lib.hid (HA2.out.setB 24 (.int .u16 (IntKind.u16.wrap (m.r.ip + n))))
  have hi3 := HI2.out.setCell_other ⟨C.b, 24, none⟩ (.int .u16 (IntKind.u16.wrap (m.r.ip + n))) ne1
  have hv3 := HV2.out.setCell_other ⟨C.b, 24, none⟩ (.int .u16 (IntKind.u16.wrap (m.r.ip + n))) ne2
  have hr3 := HR2.out.setCell_other ⟨C.b, 24, none⟩ (.int .u16 (IntKind.u16.wrap (m.r.ip + n))) ne3
  clear sc sf sl ne1 ne2 ne3
  generalize W2.setCell ⟨C.b, 24, none⟩ (.int .u16 (IntKind.u16.wrap (m.r.ip + n))) = W3 at HO3 HA3 hi3 hv3 hr3 ⊢
  have ci := hi3.cell
  have cv := hv3.cell
  have cr := hr3.cell
  clear hi3 hv3 hr3
  go_wp2_with fail
  refine (reps_any rn _).mono ?_
  rw [HREP.out]
  rintro e w' ⟨rfl, rfl⟩; dsimp only
  go_wp2_with fail
  refine (isFlow_no rn _ HFL.out).mono ?_
  rintro e w' ⟨rfl, rfl⟩; dsimp only
  go_wp2_with fail
  refine (HDO.out _ _ HO3.out).mono ?_
  rintro e w4 ⟨rfl, lv4, h4, f4, k4⟩; dsimp only
  have HF := Lib.hid (After.mk h4 (HA3.out.trans ⟨f4, k4⟩))
  clear h4 f4 k4 ci cv cr
  go_wp2_with fail
  go_ret
  exact ⟨rfl, HF.out⟩

/-- A machine that does not run. -/
theorem step_idle (w : World) (C : Phys) (lv : Value) (m : Mach) (h : Own w C lv m) (h0 : m.state ≠ 0) :
    Calls Tryz.prog 25 #[.pointer (some ⟨C.b, 0, none⟩)] w fun e w' => e = .returned (.bool false) ∧ w = w' := by
  have hb0 : (m.state != 0) = true := by simp [h0]
  have HO0 := Lib.hid h
  clear h h0
  go_enter Tryz.func25, Tryz.ntmps25
  go_wp2_with fail
  refine (state_any _ _ _ _ HO0.out).mono ?_
  rintro e w' ⟨rfl, rfl⟩; dsimp only
  go_wp2_with fail
  go_ret
  exact ⟨rfl, rfl⟩

/-- So many steps, one behind the other; the last one may not run any more. -/
def StepOk (C : Phys) (m m' : Mach) : Prop := ∀ (w : World) (lv : Value), Own w C lv m → Calls Tryz.prog 25 #[.pointer (some ⟨C.b, 0, none⟩)] w fun e w' => e = .returned (.bool true) ∧ After C lv w m' w'
def RunIn (C : Phys) (lv : Value) (w : World) (ms : Nat → Mach) (k : Nat) (wr : World) : Prop := ∃ lv', Own wr C lv' (ms k) ∧ Acc C lv w lv' wr

set_option maxRecDepth 100000 in
set_option maxHeartbeats 1600000 in
theorem run_any (w : World) (C : Phys) (lv : Value) (ms : Nat → Mach) (n N : Nat) (hN : N ≤ 100000) (hn : n ≤ N) (h : Own w C lv (ms 0)) (hs : ∀ k, k < n → StepOk C (ms k) (ms (k + 1))) (hl : n = N ∨ (ms n).state ≠ 0) :
    Calls Tryz.prog 31 #[.pointer (some ⟨C.b, 0, none⟩), .int .i64 N] w fun e w' => e = .returned (.int .i64 n) ∧ After C lv w (ms n) w' := by
  have HO0 := Lib.hid h
  have HS := Lib.hid hs
  have HL := Lib.hid hl
  clear h hs hl
  have b0 : (0 : Int) ≤ (N : Int) := by omega
  have b1 : (N : Int) ≤ 100000 := by omega
  go_enter Tryz.func31, Tryz.ntmps31
  go_wp2_with fail
  go_loopw [10, 5] (fun i _ wr => ∃ k : Nat, k ≤ n ∧ i = .int .i64 k ∧ RunIn C lv w ms k wr) (fun i _ _ => N - (intOf i).toNat)
  case atStart => exact ⟨0, by omega, rfl, lv, HO0.out, Acc.refl _ _ _⟩
  case round =>
    obtain ⟨k, hk, rfl, lv1, o1, a1⟩ := hrel
    have HO1 := Lib.hid o1
    have HA1 := Lib.hid a1
    clear o1 a1
    by_cases hlt : k < n
    · have hi : ((k : Nat) : Int) < ((N : Nat) : Int) := by omega
      go_wp2_with fail
      refine (HS.out k hlt _ _ HO1.out).mono ?_
      rintro e w2 ⟨rfl, lv2, h2, f2, k2⟩; dsimp only
      have HO2 := Lib.hid h2
      have HA2 := Lib.hid (HA1.out.trans ⟨f2, k2⟩)
      clear h2 f2 k2
      go_wp2_with fail
      exact ⟨⟨k + 1, by omega, by go_num, lv2, HO2.out, HA2.out⟩, by simp [intOf]; omega⟩
    · obtain rfl : k = n := by omega
      by_cases hN2 : k = N
      · subst hN2
        have hi : ¬ ((k : Nat) : Int) < ((k : Nat) : Int) := by omega
        go_wp2_with fail
        go_ret
        exact ⟨rfl, After.mk HO1.out HA1.out⟩
      · have hi : ((k : Nat) : Int) < ((N : Nat) : Int) := by omega
        have hst : (ms k).state ≠ 0 := HL.out.resolve_left hN2
        go_wp2_with fail
        refine (step_idle _ _ _ _ HO1.out hst).mono ?_
        rintro e w2 ⟨rfl, rfl⟩; dsimp only
        go_wp2_with fail
        go_ret
        exact ⟨rfl, After.mk HO1.out HA1.out⟩

set_option maxRecDepth 100000 in
set_option maxHeartbeats 1600000 in
/-- Fewer than one step. -/
theorem run_none (w : World) (a : Value) (N : Int) (hN : N ≤ 0) :
    Calls Tryz.prog 31 #[a, .int .i64 N] w fun e w' => e = .returned (.int .i64 0) ∧ w = w' := by
  by_cases h0 : 0 ≤ N
  · obtain rfl : N = 0 := by omega
    clear hN h0
    go_enter Tryz.func31, Tryz.ntmps31
    go_wp2_with fail
    go_loopw [10] (fun i wr => i = .int .i64 0 ∧ w = wr) (fun i _ => 0)
    case atStart => exact ⟨rfl, rfl⟩
    case round =>
      obtain ⟨rfl, rfl⟩ := hrel
      go_wp2_with fail
      go_ret
      exact ⟨rfl, rfl⟩
  · clear hN
    go_enter Tryz.func31, Tryz.ntmps31
    go_wp2_with fail
    go_loopw [10] (fun i wr => i = .int .i64 0 ∧ w = wr) (fun i _ => 0)
    case atStart => exact ⟨rfl, rfl⟩
    case round =>
      obtain ⟨rfl, rfl⟩ := hrel
      go_wp2_with fail
      go_ret
      exact ⟨rfl, rfl⟩
end Go.Proofs.YtcglkefaopgjeaaGreatDoor

/- core.New; the law's own begin and set. -/
namespace Go.Proofs.YtcglkefaopgjeaaGreatDoor
set_option linter.unusedSimpArgs false
set_option linter.unusedVariables false
open Go.RowKit

def NewM (w : World) (mb bb tb wb : Nat) (ra : Option Nat) (m : Mach) (e : Ending) (w' : World) : Prop :=
  ∃ C : Phys, e = .returned (.pointer (some ⟨C.b, 0, none⟩)) ∧ Own w' C (.slice none 0 0) m ∧ Below w.heap.size w w' ∧ C.b = w.heap.size ∧ C.mb = mb ∧ C.bb = bb ∧ C.tb = tb ∧ C.wb = wb ∧ C.ra = ra

def zV : V := ⟨0, false⟩
def zeroR : Regs := ⟨zV, zV, zV, zV, zV, zV, zV, zV, zV, zV, zV, zV, 0, 0⟩
theorem zeroR_wf : zeroR.wf := by
  have z : zV.wf := ⟨by decide, by decide⟩
  exact ⟨z, z, z, z, z, z, z, z, z, z, z, z, ⟨by decide, by decide⟩, ⟨by decide, by decide⟩⟩

set_option maxRecDepth 100000 in
set_option maxHeartbeats 800000 in
theorem coreNew_any (w : World) (mb bb tb : Nat) (f t : Nat → Int) (hm : MemAt w mb bb tb f t) (p : WPhys) (rs : List Int) (hw : WorldAt w p rs 0 []) (hlv : p.lv = .slice none 0 0) (hbase : p.base = w.heap.size)
    (d1 : mb ≠ p.wb) (d2 : bb ≠ p.wb) (d3 : tb ≠ p.wb) (d4 : ∀ g, p.ra = some g → g ≠ mb ∧ g ≠ bb ∧ g ≠ tb) (para size : Int) (h0 : 0 ≤ para) (h1 : para ≤ 65535) (h2 : 0 ≤ size) (h3 : size ≤ 1048576) :
    Calls Tryz.prog 51 #[.pointer (some ⟨mb, 0, none⟩), .pointer (some ⟨p.wb, 0, none⟩), .int .u16 para, .int .i64 size] w (NewM w mb bb tb p.wb p.ra ⟨zeroR, para * 16, size, 0, f, t, rs, 0, []⟩) := by
  have H := Lib.hid hm
  have HW := Lib.hid hw
  have D4 := Lib.hid d4
  clear hm hw d4
  go_enter Tryz.func51, Tryz.ntmps51
  go_wp2_with fail
  go_ret
  have hb : Below w.heap.size w (w.alloc (.cells (mcells ⟨w.heap.size, mb, bb, tb, p.wb, w.heap.size + 1, p.ra, p.rcap⟩ ⟨zeroR, para * 16, size, 0, f, t, rs, 0, []⟩) 44)) := (Below.refl _ _).alloc (Nat.le_refl _) _
  have hmm := H.out.below hb
  have hww := HW.out.below hb
  have m1 := H.out.r.lt
  have m2 := H.out.b.lt
  have m3 := H.out.t.lt
  have m4 := HW.out.row.lt
  refine ⟨⟨w.heap.size, mb, bb, tb, p.wb, w.heap.size + 1, p.ra, p.rcap⟩, rfl, ⟨Row.new _ _ _, hmm, ?_, ⟨zeroR_wf, ⟨(by show 0 ≤ para * 16; omega), (by show para * 16 ≤ 1048560; omega)⟩, ⟨h2, h3⟩⟩, ?_, ?_, ?_, ?_, d1, d2, d3, ?_, ?_, ?_, ?_, ?_⟩, hb, rfl, rfl, rfl, rfl, rfl, rfl⟩
  · obtain ⟨wb, base, ra, rcap, lv⟩ := p
    dsimp only at hlv hbase
    subst hlv hbase
    refine ⟨hww.row, hww.rep, fun g hg => ⟨Nat.lt_succ_of_lt (HW.out.repB g hg).1, (HW.out.repB g hg).2⟩, World.ownsRow_nil _ _ _ _, Nat.lt_succ_of_lt m4, by simp, hww.le, hww.most, hww.big⟩
  · show w.heap.size ≠ mb; omega
  · show w.heap.size ≠ bb; omega
  · show w.heap.size ≠ tb; omega
  · show w.heap.size ≠ p.wb; omega
  · exact Nat.lt_succ_self _
  · show mb < w.heap.size + 1; omega
  · show bb < w.heap.size + 1; omega
  · show tb < w.heap.size + 1; omega
  · intro g hg
    have := (HW.out.repB g hg).1
    rw [hbase] at this
    exact ⟨by show g ≠ w.heap.size; omega, D4.out g hg⟩
end Go.Proofs.YtcglkefaopgjeaaGreatDoor

/- Code bytes in a machine's memory, what is taken of them, and what the machine of a Cpu law is: plain laws, no walk. -/
namespace Go.Proofs.YtcglkefaopgjeaaGreatDoor
set_option linter.unusedSimpArgs false
set_option linter.unusedVariables false
open Go.RowKit

/-- Bytes at CS:IP. -/
def codeMem (ip : Int) (bs : List Int) (a : Nat) : Int := if 4096 ≤ a ∧ a < 69632 then bs.getD (((a : Int) - 4096 - ip) % 65536).toNat 0 else 0
theorem lin256 (off : Int) (h0 : 0 ≤ off) (h1 : off ≤ 65535) : (lin 256 off : Int) = 4096 + off := by unfold lin; omega
theorem codeMem_nil (ip : Int) : codeMem ip [] = fun _ => 0 := by
  funext a; unfold codeMem; split <;> rfl
theorem codeMem_step (ip : Int) (bs : List Int) (k : Nat) (hk : k < bs.length) (hk2 : k < 65536) :
    upd (codeMem ip (bs.take k)) (lin 256 (IntKind.u16.wrap (ip + k))) (bs.getD k 0) = codeMem ip (bs.take (k + 1)) := by
  have hl := lin256 (IntKind.u16.wrap (ip + k)) (wrap16_lo _) (wrap16_hi _)
  rw [IntKind.wrap_u16] at hl
  funext a
  unfold upd codeMem
  by_cases e : a = lin 256 (IntKind.u16.wrap (ip + k))
  · rw [if_pos e, IntKind.wrap_u16] at *
    rw [if_pos (by omega), show (((a : Int) - 4096 - ip) % 65536).toNat = k by omega]
    simp only [List.getD_eq_getElem?_getD, List.getElem?_take]
    rw [if_pos (by omega)]
  · rw [if_neg e]
    rw [IntKind.wrap_u16] at e
    split
    · have hne : (((a : Int) - 4096 - ip) % 65536).toNat ≠ k := by omega
      simp only [List.getD_eq_getElem?_getD, List.getElem?_take]
      by_cases h2 : (((a : Int) - 4096 - ip) % 65536).toNat < k
      · rw [if_pos h2, if_pos (by omega)]
      · rw [if_neg h2, if_neg (by omega)]
    · rfl

/-- What a Cpu law's machine has of its own, but for registers, bytes and what happened. -/
structure Sane (m : Mach) : Prop where
  base : m.base = 4096
  size : m.size = 327680
  state : m.state = 0
  tag : m.tag = fun _ => 0
  s1 : m.r.s1 = ⟨256, true⟩
theorem own1_sane {m : Mach} (h : Sane m) (seg : V) (off : Int) (ht : seg.t = true) (h0 : 256 ≤ seg.v) (h1 : seg.v ≤ 12544) (o0 : 0 ≤ off) (o1 : off ≤ 65535) : m.own1 seg off = true := by
  unfold Mach.own1
  rw [ht, h.base, h.size, Bool.true_and]
  refine decide_eq_true ?_
  unfold lin
  omega
theorem owns_sane {m : Mach} (h : Sane m) (seg : V) (off : Int) (ht : seg.t = true) (h0 : 256 ≤ seg.v) (h1 : seg.v ≤ 12544) (n : Nat) : m.owns seg off n = true := by
  induction n with
  | zero => rfl
  | succ n ih => rw [Mach.owns, ih, Bool.true_and]; exact own1_sane h seg _ ht h0 h1 (wrap16_lo _) (wrap16_hi _)
theorem plainB_sane {m : Mach} (h : Sane m) (but : Int) (n : Nat) : m.plainB but n = true := by
  induction n with
  | zero => rfl
  | succ n ih =>
    rw [Mach.plainB, ih, Bool.true_and, Mach.oneB, owns_sane h _ _ (by rw [h.s1]) (by rw [h.s1]; decide) (by rw [h.s1]; decide), h.tag]
    rfl

/-- The bytes behind IP begin so. -/
def CodeIs (m : Mach) (bs : List Int) : Prop := ∀ k, k < bs.length → m.code k = bs.getD k 0
theorem codeIs_on {m m' : Mach} {bs : List Int} (h : CodeIs m bs) (n : Nat) (h1 : m'.r.s1 = m.r.s1) (h2 : m'.r.ip = IntKind.u16.wrap (m.r.ip + n)) (h3 : ∀ k, m'.mem (lin m.r.s1.v (IntKind.u16.wrap (m.r.ip + (n + k : Nat)))) = m.code (n + k)) : CodeIs m' (bs.drop n) := by
  intro k hk
  have hk' : n + k < bs.length := by simp at hk; omega
  have e := h (n + k) hk'
  rw [← h3] at e
  unfold Mach.code
  rw [h1, h2, show IntKind.u16.wrap (IntKind.u16.wrap (m.r.ip + n) + k) = IntKind.u16.wrap (m.r.ip + (n + k : Nat)) by simp only [IntKind.wrap_u16]; omega, e]
  simp [List.getD_eq_getElem?_getD]

theorem take_one (bs : Nat → Int) (op : Int) (h : bs 0 = op) (r : IRow) (h1 : isPre op = false) (h2 : twoOf op = false) (h3 : isaOf op 0 = some r) (h4 : immsOf r = 0) (h5 : mayB (opI op false 0 0) = true) : takeF bs = some (opI op false 0 0, 1) := by
  have ha : aheadF bs 4 0 false 0 0 = some (op, 1, false, 0, 0) := by rw [aheadF, h, if_pos h1]
  have hb : behindF bs 1 (opI op false 0 0) r = (opI op false 0 0, 1) := by
    unfold behindF
    rw [if_neg (by omega), if_neg (by omega), if_neg (by omega)]
  unfold takeF
  rw [ha]
  dsimp only
  rw [twoF, h2, if_neg (by decide), restF]
  dsimp only
  rw [h3]
  dsimp only
  rw [hb]
  dsimp only
  rw [h5, if_pos rfl]
theorem take_byte (bs : Nat → Int) (op : Int) (h : bs 0 = op) (r : IRow) (h1 : isPre op = false) (h2 : twoOf op = false) (h3 : isaOf op 0 = some r) (h4 : immsOf r = 1) (h6 : ¬ (r.a = 9 ∨ r.b = 8)) (h5 : mayB { opI op false 0 0 with imm := bs 1 } = true) : takeF bs = some ({ opI op false 0 0 with imm := bs 1 }, 2) := by
  have ha : aheadF bs 4 0 false 0 0 = some (op, 1, false, 0, 0) := by rw [aheadF, h, if_pos h1]
  have hb : behindF bs 1 (opI op false 0 0) r = ({ opI op false 0 0 with imm := bs 1 }, 2) := by
    unfold behindF
    rw [if_pos h4, if_neg h6]
  unfold takeF
  rw [ha]
  dsimp only
  rw [twoF, h2, if_neg (by decide), restF]
  dsimp only
  rw [h3]
  dsimp only
  rw [hb]
  dsimp only
  rw [h5, if_pos rfl]
theorem take_word (bs : Nat → Int) (op : Int) (h : bs 0 = op) (r : IRow) (h1 : isPre op = false) (h2 : twoOf op = false) (h3 : isaOf op 0 = some r) (h4 : immsOf r = 2) (h5 : mayB { opI op false 0 0 with imm := bs 1 + 256 * bs 2 } = true) : takeF bs = some ({ opI op false 0 0 with imm := bs 1 + 256 * bs 2 }, 3) := by
  have ha : aheadF bs 4 0 false 0 0 = some (op, 1, false, 0, 0) := by rw [aheadF, h, if_pos h1]
  have hb : behindF bs 1 (opI op false 0 0) r = ({ opI op false 0 0 with imm := bs 1 + 256 * bs 2 }, 3) := by
    unfold behindF
    rw [if_neg (by omega), if_pos h4]
  unfold takeF
  rw [ha]
  dsimp only
  rw [twoF, h2, if_neg (by decide), restF]
  dsimp only
  rw [h3]
  dsimp only
  rw [hb]
  dsimp only
  rw [h5, if_pos rfl]
theorem take_none (bs : Nat → Int) (op : Int) (h : bs 0 = op) (h1 : isPre op = false) (h2 : twoOf op = false) (h3 : isaOf op 0 = none) : takeF bs = none := by
  have ha : aheadF bs 4 0 false 0 0 = some (op, 1, false, 0, 0) := by rw [aheadF, h, if_pos h1]
  unfold takeF
  rw [ha]
  dsimp only
  rw [twoF, h2, if_neg (by decide), restF]
  dsimp only
  rw [h3]

/-- One byte, and no more: what is done without an operand behind it. -/
def aloneB (op : Int) : Bool := !isPre op && !twoOf op && (match isaOf op 0 with | some r => immsOf r == 0 | none => false) && mayB (opI op false 0 0)
theorem take_alone (bs : Nat → Int) (op : Int) (h : bs 0 = op) (ho : aloneB op = true) : takeF bs = some (opI op false 0 0, 1) := by
  unfold aloneB at ho
  simp only [Bool.and_eq_true, Bool.not_eq_true'] at ho
  cases hi : isaOf op 0 with
  | none => rw [hi] at ho; simp at ho
  | some r =>
    rw [hi] at ho
    exact take_one bs op h r ho.1.1.1 ho.1.1.2 hi (by simpa using ho.1.2) ho.2
end Go.Proofs.YtcglkefaopgjeaaGreatDoor

/- hansomlaw16: begin and set. -/
namespace Go.Proofs.YtcglkefaopgjeaaGreatDoor
set_option linter.unusedSimpArgs false
set_option linter.unusedVariables false
open Go.RowKit

def setG (r : Regs) : Nat → Regs
  | 0 => r
  | 1 => { r with g0 := ⟨r.g0.v, false⟩ }
  | 2 => { r with g0 := ⟨r.g0.v, false⟩, g1 := ⟨r.g1.v, false⟩ }
  | 3 => { r with g0 := ⟨r.g0.v, false⟩, g1 := ⟨r.g1.v, false⟩, g2 := ⟨r.g2.v, false⟩ }
  | 4 => { r with g0 := ⟨r.g0.v, false⟩, g1 := ⟨r.g1.v, false⟩, g2 := ⟨r.g2.v, false⟩, g3 := ⟨r.g3.v, false⟩ }
  | 5 => { r with g0 := ⟨r.g0.v, false⟩, g1 := ⟨r.g1.v, false⟩, g2 := ⟨r.g2.v, false⟩, g3 := ⟨r.g3.v, false⟩, g4 := ⟨r.g4.v, false⟩ }
  | 6 => { r with g0 := ⟨r.g0.v, false⟩, g1 := ⟨r.g1.v, false⟩, g2 := ⟨r.g2.v, false⟩, g3 := ⟨r.g3.v, false⟩, g4 := ⟨r.g4.v, false⟩, g5 := ⟨r.g5.v, false⟩ }
  | 7 => { r with g0 := ⟨r.g0.v, false⟩, g1 := ⟨r.g1.v, false⟩, g2 := ⟨r.g2.v, false⟩, g3 := ⟨r.g3.v, false⟩, g4 := ⟨r.g4.v, false⟩, g5 := ⟨r.g5.v, false⟩, g6 := ⟨r.g6.v, false⟩ }
  | _ => { r with g0 := ⟨r.g0.v, false⟩, g1 := ⟨r.g1.v, false⟩, g2 := ⟨r.g2.v, false⟩, g3 := ⟨r.g3.v, false⟩, g4 := ⟨r.g4.v, false⟩, g5 := ⟨r.g5.v, false⟩, g6 := ⟨r.g6.v, false⟩, g7 := ⟨r.g7.v, false⟩ }

/-- A machine that a call has made, all of whose blocks are its own. -/
def Fresh (w : World) (m : Mach) (e : Ending) (w' : World) : Prop :=
  ∃ C : Phys, ∃ lv : Value, e = .returned (.pointer (some ⟨C.b, 0, none⟩)) ∧ Own w' C lv m ∧ Below w.heap.size w w' ∧ (∀ k, k < w.heap.size → ¬ C.own lv k)

theorem below_of {B : Nat} {w w3 wr w5 : World} {own1 own2 : Nat → Prop} (h : Below B w w3) (f1 : Fr own1 w3 wr) (f2 : Fr own2 wr w5) (h1 : ∀ k, k < B → ¬ own1 k) (h2 : ∀ k, k < B → ¬ own2 k) (hB : B < w3.heap.size) : Below B w w5 :=
  ⟨f2.os.trans (f1.os.trans h.os), f2.tape.trans (f1.tape.trans h.tape), f2.output.trans (f1.output.trans h.output), Nat.le_trans h.size (Nat.le_trans f1.size f2.size),
    fun k hk => ((f2.block k (by have := f1.size; omega) (h2 k hk)).trans (f1.block k (by omega) (h1 k hk))).trans (h.block k hk)⟩
theorem own_lv {C : Phys} {lv lv1 : Value} {B N : Nat} (h : ∀ k, k < B → ¬ C.own lv k) (hk : ∀ k, lv1.ownBlock = some k → lv.ownBlock = some k ∨ N ≤ k) (hN : B ≤ N) : ∀ k, k < B → ¬ C.own lv1 k := by
  intro k hkB
  rintro (e | e | e | e | e)
  · exact h k hkB (Or.inl e)
  · exact h k hkB (Or.inr (Or.inl e))
  · exact h k hkB (Or.inr (Or.inr (Or.inl e)))
  · exact h k hkB (Or.inr (Or.inr (Or.inr (Or.inl e))))
  · rcases hk k e with e | e
    · exact h k hkB (Or.inr (Or.inr (Or.inr (Or.inr e))))
    · omega
theorem fresh_own {w w1 w2 : World} {C : Phys} {lv lv1 : Value} (hb : Below w.heap.size w w1) (hf : Acc C lv w1 lv1 w2) (hn : ∀ k, k < w.heap.size → ¬ C.own lv k) : Below w.heap.size w w2 :=
  ⟨hf.f.os.trans hb.os, hf.f.tape.trans hb.tape, hf.f.output.trans hb.output, Nat.le_trans hb.size hf.f.size, fun k hk => (hf.f.block k (Nat.lt_of_lt_of_le hk hb.size) (hn k hk)).trans (hb.block k hk)⟩
theorem news2 (w1 : World) (x y : Value) (t : TypeId) : ∀ j u, [x, y][j]? = some u → (w1.alloc (.cells #[x, y] t)).cell? ((⟨w1.heap.size, 0, none⟩ : Addr).add j) = some u := by
  intro j u h
  match j with
  | 0 =>
    have e : (⟨w1.heap.size, 0, none⟩ : Addr).add 0 = ⟨w1.heap.size, 0, none⟩ := rfl
    rw [e, (Row.new w1 #[x, y] t).cell]
    exact h
  | 1 =>
    have e : (⟨w1.heap.size, 0, none⟩ : Addr).add 1 = ⟨w1.heap.size, 1, none⟩ := rfl
    rw [e, (Row.new w1 #[x, y] t).cell]
    exact h
  | j + 2 => simp at h

set_option maxHeartbeats 400000 in
theorem set_any (w : World) (C : Phys) (lv : Value) (m : Mach) (h : Own w C lv m) (r : Regs) (hr : r.wf) :
    Calls Tryz.prog 54 #[.pointer (some ⟨C.b, 0, none⟩), r.val] w fun e w' => e = .returned (.tuple #[]) ∧ After C lv w (m.setR r) w' := by
  have HO0 := Lib.hid h; have HA0 := Lib.hid (Acc.refl C lv w); have sc := HO0.out.sees.c; have sf := HO0.out.sees.f; have sr := HO0.out.sees.r; have ss := HO0.out.sees.s; have sl := HO0.out.sees.l; clear h
  go_enter Tryz.func54, Tryz.ntmps54
  go_wp2_with fail
  go_end0
  exact ⟨rfl, After.mk ((HO0.out.alloc _).putR r hr) ((HA0.out.alloc _).putR r)⟩

def begR (r : Regs) : Regs := { g0 := ⟨r.g0.v, false⟩, g1 := ⟨r.g1.v, false⟩, g2 := ⟨r.g2.v, false⟩, g3 := ⟨r.g3.v, false⟩, g4 := ⟨r.g4.v, false⟩, g5 := ⟨r.g5.v, false⟩, g6 := ⟨r.g6.v, false⟩, g7 := ⟨r.g7.v, false⟩, s0 := ⟨8448, true⟩, s1 := ⟨256, true⟩, s2 := ⟨12544, true⟩, s3 := ⟨4352, true⟩, ip := r.ip, f := andW r.f 4053 }
theorem begR_wf {r : Regs} (h : r.wf) : (begR r).wf := by
  have z0 : V.wf ⟨8448, true⟩ := ⟨by decide, by decide⟩
  have z1 : V.wf ⟨256, true⟩ := ⟨by decide, by decide⟩
  have z2 : V.wf ⟨12544, true⟩ := ⟨by decide, by decide⟩
  have z3 : V.wf ⟨4352, true⟩ := ⟨by decide, by decide⟩
  exact ⟨h.g0, h.g1, h.g2, h.g3, h.g4, h.g5, h.g6, h.g7, z0, z1, z2, z3, h.ip, ⟨and_lo _ _, and_hi _ _⟩⟩
theorem begR_cells (r : Regs) : ((((((((((setG r 8).cells.setIfInBounds 25 (.int .u16 (andW r.f 4053))).setIfInBounds 16 (.int .u16 8448)).setIfInBounds 17 (.bool true)).setIfInBounds 18 (.int .u16 256)).setIfInBounds 19 (.bool true)).setIfInBounds 20 (.int .u16 12544)).setIfInBounds 21 (.bool true)).setIfInBounds 22 (.int .u16 4352)).setIfInBounds 23 (.bool true)) = (begR r).cells := by kernel_rfl
/-- The machine that begin makes. -/
def begun (r : Regs) (bs : List Int) : Mach := ⟨begR r, 4096, 327680, 0, codeMem r.ip bs, fun _ => 0, [77, 300], 0, []⟩
theorem setG8 (r : Regs) : setG r 8 = ⟨⟨r.g0.v, false⟩, ⟨r.g1.v, false⟩, ⟨r.g2.v, false⟩, ⟨r.g3.v, false⟩, ⟨r.g4.v, false⟩, ⟨r.g5.v, false⟩, ⟨r.g6.v, false⟩, ⟨r.g7.v, false⟩, r.s0, r.s1, r.s2, r.s3, r.ip, r.f⟩ := rfl

/-- What begin knows while it lays the bytes. -/
def Laying (w wa : World) (C : Phys) (lv : Value) (r : Regs) (bs : List Int) (k : Nat) (wr : World) : Prop :=
  ∃ lv', Own wr C lv' ⟨begR r, 4096, 327680, 0, codeMem r.ip (bs.take k), fun _ => 0, [77, 300], 0, []⟩ ∧ Acc C lv wa lv' wr ∧ Row wr w.heap.size (begR r).cells 28

set_option maxRecDepth 100000 in
set_option maxHeartbeats 1600000 in
theorem begin_any (w : World) (r : Regs) (hr : r.wf) (g : Nat) (cap : Nat) (bs : List Int) (hg : g < w.heap.size) (hby : ∀ k, k < bs.length → w.cell? ⟨g, k, none⟩ = some (.int .u8 (bs.getD k 0))) (hwf : ∀ k, 0 ≤ bs.getD k 0 ∧ bs.getD k 0 ≤ 255) (hl : bs.length ≤ 64) :
    Calls Tryz.prog 16 #[r.val, .slice (some ⟨g, 0, none⟩) bs.length cap] w (Fresh w (begun r bs)) := by
  have HBY := Lib.hid hby
  have HWF := Lib.hid hwf
  clear hby hwf
  go_enter Tryz.func16, Tryz.ntmps16
  go_wp2_with fail
  refine (memNew_any _).mono ?_; rintro e w1 ⟨mb, bb, tb, rfl, hm, hb, k1, k2, k3⟩; dsimp only
  rw [World.size_alloc] at k1 k2 k3
  have HM := Lib.hid hm
  have hb1 : Below (w.heap.size + 1) (w.alloc (.cells r.cells 28)) w1 := by simpa using hb
  have HX := Lib.hid (Below.row hb1 (Row.new w r.cells 28) (by omega))
  have HB := Lib.hid (((Below.refl w.heap.size w).alloc (Nat.le_refl _) (.cells r.cells 28)).trans (hb1.mono (by omega)))
  clear hb hb1 hm
  have sz1 : w.heap.size < w1.heap.size := HX.out.lt
  go_wp2_with fail
  refine (worldNew_some _ ⟨w1.heap.size, 0, none⟩ 2 [77, 300] (news2 w1 _ _ _) (by decide)).mono ?_
  rintro e w2 ⟨p, rfl, hw, hb2, q1, q2, q3, q4⟩; dsimp only
  rw [World.size_alloc] at q1 q3
  have hbb : Below w1.heap.size w1 w2 := ((Below.refl w1.heap.size w1).alloc (Nat.le_refl _) _).trans (hb2.mono (by simp))
  have HM2 := Lib.hid (HM.out.below hbb)
  have HX2 := Lib.hid (Below.row hbb HX.out HX.out.lt)
  have HB2 := Lib.hid (HB.out.trans (hbb.mono (by omega)))
  have HW := Lib.hid hw
  have Q3 := Lib.hid q3
  have m1 := HM.out.r.lt
  have m2 := HM.out.b.lt
  have m3 := HM.out.t.lt
  have hd4 : ∀ g, p.ra = some g → g ≠ mb ∧ g ≠ bb ∧ g ≠ tb := fun g hg => by have := q3 g hg; omega
  have D4 := Lib.hid hd4
  have Q2 := Lib.hid q2
  have Q4 := Lib.hid q4
  clear hbb hw hb2 q2 q3 q4 hd4
  go_wp2_with fail
  refine (coreNew_any _ mb bb tb _ _ HM2.out p [77, 300] HW.out Q2.out Q4.out (by omega) (by omega) (by omega) D4.out 256 327680 (by decide) (by decide) (by decide) (by decide)).mono ?_
  rintro e w3 ⟨C, rfl, ho, hb3, c1, c2, c3, c4, c5, c6⟩; dsimp only
  have HO := Lib.hid ho
  have hx3 : Row w3 w.heap.size r.cells 28 := Below.row hb3 HX2.out HX2.out.lt
  have HX3 := Lib.hid hx3
  have HB3 := Lib.hid (HB2.out.trans (hb3.mono HB2.out.size))
  have n1 : w.heap.size ≠ C.b := by have := HX2.out.lt; omega
  have n2 : w.heap.size ≠ C.mb := by omega
  have n3 : w.heap.size ≠ C.bb := by omega
  have n4 : w.heap.size ≠ C.tb := by omega
  have n5 : w.heap.size ≠ C.wb := by omega
  have n6 : ∀ g, C.ra = some g → ¬ g = w.heap.size := fun g hg => by
    rw [c6] at hg
    have := Q3.out g hg
    omega
  have keep : ∀ wr, Fr (fun b => b = w.heap.size) w3 wr → Own wr C (.slice none 0 0) ⟨zeroR, 256 * 16, 327680, 0, fun _ => 0, fun _ => 0, [77, 300], 0, []⟩ := fun wr hf =>
    HO.out.kept hf (Ne.symm n1) (Ne.symm n2) (Ne.symm n3) (Ne.symm n4) (Ne.symm n5) n6 (fun g hg => by cases hg)
  have KEEP := Lib.hid keep
  have hown : ∀ k, k < w.heap.size + 1 → ¬ C.own (.slice none 0 0) k := by
    intro k hk
    have := HX2.out.lt
    rintro (e | e | e | e | e)
    · omega
    · omega
    · omega
    · omega
    · cases e
  have OWN := Lib.hid hown
  clear keep hown n1 n2 n3 n4 n5 n6 c1 c2 c3 c4 c5 c6 m1 m2 m3 q1 k1 k2 k3 ho hx3 hb3 sz1
  go_wp2_with fail
  go_loopw [6] (fun i wr => ∃ k : Nat, k ≤ 8 ∧ i = .int .i64 k ∧ Row wr w.heap.size (setG r k).cells 28 ∧ Fr (fun b => b = w.heap.size) w3 wr) (fun i _ => 8 - (intOf i).toNat)
  case atStart => exact ⟨0, by omega, rfl, HX3.out, Fr.refl _ _⟩
  case round =>
    obtain ⟨k, hk, rfl, hrow, hfr⟩ := hrel
    have x1 := hrow.cell
    have x2 := hrow.frozen
    have x3 := hrow.lt
    have HR1 := Lib.hid hrow
    have HFR1 := Lib.hid hfr
    clear hrow hfr
    have hcases : k = 0 ∨ k = 1 ∨ k = 2 ∨ k = 3 ∨ k = 4 ∨ k = 5 ∨ k = 6 ∨ k = 7 ∨ k = 8 := by omega
    rcases hcases with rfl | rfl | rfl | rfl | rfl | rfl | rfl | rfl | rfl
    · go_wp2_with fail
      exact ⟨⟨1, by omega, by rfl, by have := HR1.out.setCell (2 * 0 + 1) (.bool false); exact this, (HFR1.out.setCell (p := ⟨w.heap.size, _, none⟩) rfl _)⟩, by simp [intOf]⟩
    · go_wp2_with fail
      exact ⟨⟨2, by omega, by rfl, by have := HR1.out.setCell (2 * 1 + 1) (.bool false); exact this, (HFR1.out.setCell (p := ⟨w.heap.size, _, none⟩) rfl _)⟩, by simp [intOf]⟩
    · go_wp2_with fail
      exact ⟨⟨3, by omega, by rfl, by have := HR1.out.setCell (2 * 2 + 1) (.bool false); exact this, (HFR1.out.setCell (p := ⟨w.heap.size, _, none⟩) rfl _)⟩, by simp [intOf]⟩
    · go_wp2_with fail
      exact ⟨⟨4, by omega, by rfl, by have := HR1.out.setCell (2 * 3 + 1) (.bool false); exact this, (HFR1.out.setCell (p := ⟨w.heap.size, _, none⟩) rfl _)⟩, by simp [intOf]⟩
    · go_wp2_with fail
      exact ⟨⟨5, by omega, by rfl, by have := HR1.out.setCell (2 * 4 + 1) (.bool false); exact this, (HFR1.out.setCell (p := ⟨w.heap.size, _, none⟩) rfl _)⟩, by simp [intOf]⟩
    · go_wp2_with fail
      exact ⟨⟨6, by omega, by rfl, by have := HR1.out.setCell (2 * 5 + 1) (.bool false); exact this, (HFR1.out.setCell (p := ⟨w.heap.size, _, none⟩) rfl _)⟩, by simp [intOf]⟩
    · go_wp2_with fail
      exact ⟨⟨7, by omega, by rfl, by have := HR1.out.setCell (2 * 6 + 1) (.bool false); exact this, (HFR1.out.setCell (p := ⟨w.heap.size, _, none⟩) rfl _)⟩, by simp [intOf]⟩
    · go_wp2_with fail
      exact ⟨⟨8, by omega, by rfl, by have := HR1.out.setCell (2 * 7 + 1) (.bool false); exact this, (HFR1.out.setCell (p := ⟨w.heap.size, _, none⟩) rfl _)⟩, by simp [intOf]⟩
    · go_upto_region 10 with fail
      have hrow : Row (((((((((wr.setCell ⟨w.heap.size, 25, none⟩ (.int .u16 (andW r.f 4053))).setCell ⟨w.heap.size, 16, none⟩ (.int .u16 8448)).setCell ⟨w.heap.size, 17, none⟩ (.bool true)).setCell ⟨w.heap.size, 18, none⟩ (.int .u16 256)).setCell ⟨w.heap.size, 19, none⟩ (.bool true)).setCell ⟨w.heap.size, 20, none⟩ (.int .u16 12544)).setCell ⟨w.heap.size, 21, none⟩ (.bool true)).setCell ⟨w.heap.size, 22, none⟩ (.int .u16 4352)).setCell ⟨w.heap.size, 23, none⟩ (.bool true)) w.heap.size (begR r).cells 28 := by
        have := ((((((((HR1.out.setCell 25 (.int .u16 (andW r.f 4053))).setCell 16 (.int .u16 8448)).setCell 17 (.bool true)).setCell 18 (.int .u16 256)).setCell 19 (.bool true)).setCell 20 (.int .u16 12544)).setCell 21 (.bool true)).setCell 22 (.int .u16 4352)).setCell 23 (.bool true)
        rwa [begR_cells] at this
      have hfr : Fr (fun b => b = w.heap.size) w3 (((((((((wr.setCell ⟨w.heap.size, 25, none⟩ (.int .u16 (andW r.f 4053))).setCell ⟨w.heap.size, 16, none⟩ (.int .u16 8448)).setCell ⟨w.heap.size, 17, none⟩ (.bool true)).setCell ⟨w.heap.size, 18, none⟩ (.int .u16 256)).setCell ⟨w.heap.size, 19, none⟩ (.bool true)).setCell ⟨w.heap.size, 20, none⟩ (.int .u16 12544)).setCell ⟨w.heap.size, 21, none⟩ (.bool true)).setCell ⟨w.heap.size, 22, none⟩ (.int .u16 4352)).setCell ⟨w.heap.size, 23, none⟩ (.bool true)) := by
        exact ((((((((HFR1.out.setCell (p := ⟨w.heap.size, _, none⟩) rfl _).setCell (p := ⟨w.heap.size, _, none⟩) rfl _).setCell (p := ⟨w.heap.size, _, none⟩) rfl _).setCell (p := ⟨w.heap.size, _, none⟩) rfl _).setCell (p := ⟨w.heap.size, _, none⟩) rfl _).setCell (p := ⟨w.heap.size, _, none⟩) rfl _).setCell (p := ⟨w.heap.size, _, none⟩) rfl _).setCell (p := ⟨w.heap.size, _, none⟩) rfl _).setCell (p := ⟨w.heap.size, _, none⟩) rfl _
      rw [show (setG r 8).f = r.f from rfl]
      clear x1 x2 x3 HR1
      generalize (((((((((wr.setCell ⟨w.heap.size, 25, none⟩ (.int .u16 (andW r.f 4053))).setCell ⟨w.heap.size, 16, none⟩ (.int .u16 8448)).setCell ⟨w.heap.size, 17, none⟩ (.bool true)).setCell ⟨w.heap.size, 18, none⟩ (.int .u16 256)).setCell ⟨w.heap.size, 19, none⟩ (.bool true)).setCell ⟨w.heap.size, 20, none⟩ (.int .u16 12544)).setCell ⟨w.heap.size, 21, none⟩ (.bool true)).setCell ⟨w.heap.size, 22, none⟩ (.int .u16 4352)).setCell ⟨w.heap.size, 23, none⟩ (.bool true)) = W4 at hrow hfr ⊢
      have xr : regsIn W4 w.heap.size = some (begR r).val := (regsIn_row hrow).trans (rowRegs_regs _)
      have HO4 := Lib.hid (KEEP.out _ hfr)
      have HX4 := Lib.hid hrow
      have HF4 := Lib.hid hfr
      clear hrow hfr HFR1
      go_wp2_with fail
      refine (set_any _ C (.slice none 0 0) _ HO4.out (begR r) (begR_wf hr)).mono ?_
      rintro e w5 ⟨rfl, lv5, h5, f5, k5⟩; dsimp only
      have HL5 := Lib.hid (show Laying w W4 C (.slice none 0 0) r bs 0 w5 from ⟨lv5, by rw [List.take_zero, codeMem_nil]; exact h5, ⟨f5, k5⟩, f5.row HX4.out (OWN.out _ (Nat.lt_succ_self _))⟩)
      clear h5 f5 k5 xr
      go_wp2_with fail
      go_loopw [7] (fun i wr => ∃ k : Nat, k ≤ bs.length ∧ i = .int .i64 k ∧ Laying w W4 C (.slice none 0 0) r bs k wr) (fun i _ => bs.length - (intOf i).toNat)
      case atStart => exact ⟨0, by omega, rfl, HL5.out⟩
      case round =>
        obtain ⟨k, hk, rfl, lv6, o6, a6, x6⟩ := hrel
        have HO6 := Lib.hid o6
        have HA6 := Lib.hid a6
        have HX6 := Lib.hid x6
        have B6 := Lib.hid (below_of HB3.out HF4.out a6.f (fun k hk e => by omega) (fun k hk => OWN.out k (Nat.lt_succ_of_lt hk)) HX3.out.lt)
        clear o6 a6 x6
        by_cases hlt : k < bs.length
        · have hi : ((k : Nat) : Int) < (bs.length : Int) := by omega
          have hi2 : ((k : Nat) : Int) < 64 := by omega
          have hi3 : (0 : Int) ≤ (k : Int) := by omega
          have ew : IntKind.u16.wrap (k : Int) = (k : Int) := by rw [IntKind.wrap_u16]; omega
          have c26 : wr.cell? ⟨C.b, 26, none⟩ = some (.pointer (some ⟨C.mb, 0, none⟩)) := (HO6.out.row.cell 26).trans (mcell26 C _)
          have cip : wr.cell? ⟨w.heap.size, 24, none⟩ = some (.int .u16 r.ip) := HX6.out.cell 24
          have cby : wr.cell? ⟨g, k, none⟩ = some (.int .u8 (bs.getD k 0)) := (B6.out.cell (p := ⟨g, k, none⟩) hg).trans (HBY.out k hlt)
          have hw := HWF.out k
          obtain ⟨o, ho⟩ : ∃ o, IntKind.u16.wrap (r.ip + k) = o := ⟨_, rfl⟩
          have o0 : 0 ≤ o := ho ▸ wrap16_lo _
          have o1 : o ≤ 65535 := ho ▸ wrap16_hi _
          obtain ⟨v, hv⟩ : ∃ v, bs.getD k 0 = v := ⟨_, rfl⟩
          rw [hv] at hw cby
          have HV := Lib.hid hv
          have HOO := Lib.hid ho
          clear hv
          go_wp2_with fail
          refine range_of (wr) ?_; intro S inst ω hin hout
          have r1 := range_cell hin c26
          have r2 := range_cell hin cip
          have r3 := range_cell hin cby
          clear c26 cip cby
          refine wp_region_tail_range ω 13 (by kernel_rfl) (by kernel_rfl) (hout _ (Below.refl _ _).drew) ?_; simp only [List.take_succ_cons, List.take_zero, List.drop_succ_cons, List.drop_zero]
          repeat (go_big_quiet_step (fail))
          refine wpQuiet_nil ?_; intro _ hw'; obtain ⟨nq, rfl⟩ := hw'
          have HO7 := Lib.hid (HO6.out.below (hin nq))
          have HA7 := Lib.hid (HA6.out.below (hin nq))
          have HX7 := Lib.hid (Below.row (hin nq) HX6.out HX6.out.lt)
          clear r1 r2 r3
          generalize ω nq = w7 at HO7 HA7 HX7 ⊢
          go_wp2_with fail
          refine (memSetByte_any _ _ _ _ _ _ HO7.out.mem 256 o (by decide) (by decide) o0 o1 v hw.1 hw.2).mono ?_
          rintro e w8 ⟨rfl, hm, hf⟩; dsimp only
          have ht : upd (fun _ => (0 : Int)) (lin 256 o) 0 = fun _ => 0 := by funext x; unfold upd; split <;> rfl
          have hmm : upd (codeMem r.ip (bs.take k)) (lin 256 o) v = codeMem r.ip (bs.take (k + 1)) := by
            rw [← HV.out, ← HOO.out]; exact codeMem_step r.ip bs k hlt (by omega)
          rw [ht, hmm] at hm
          have HO8 := Lib.hid (HO7.out.setMem hf hm)
          have HA8 := Lib.hid (HA7.out.setMem hf)
          have HX8 := Lib.hid (hf.row HX7.out (fun h => OWN.out w.heap.size (Nat.lt_succ_self _) (ownM_own C (.slice none 0 0) _ h)))
          clear hm hf ht hmm ho
          go_wp2_with fail
          exact ⟨⟨k + 1, by omega, by go_num, lv6, HO8.out, HA8.out, HX8.out⟩, by simp [intOf]; omega⟩
        · obtain rfl : k = bs.length := by omega
          have hi : ¬ ((bs.length : Nat) : Int) < (bs.length : Int) := by omega
          go_wp2_with fail
          go_ret
          have hO := HO6.out
          rw [List.take_length] at hO
          exact ⟨C, lv6, rfl, hO, B6.out, own_lv (fun k hk => OWN.out k (Nat.lt_succ_of_lt hk)) HA6.out.k (Nat.le_trans (Nat.le_of_lt HX3.out.lt) HF4.out.size)⟩
end Go.Proofs.YtcglkefaopgjeaaGreatDoor

/- Two register files compared. -/
namespace Go.Proofs.YtcglkefaopgjeaaGreatDoor
set_option linter.unusedSimpArgs false
set_option linter.unusedVariables false
open Go.RowKit

/-- A word with its mark equals itself. -/
theorem eq_V (d : Nat) (a : Int) (b : Bool) (w : World) : (Op.equalIn (d + 1 + 1) 24 (.agg #[.int .u16 a, .bool b]) (.agg #[.int .u16 a, .bool b])).run Tryz.prog w = .ok true w := by
  have hS : Tryz.prog.underlying 24 = some (.struct (Tryz.prog.fieldsOf 24)) := by kernel_rfl
  rw [run_equalIn_agg w (d + 1) 24 _ _ hS (by kernel_rfl)]
  simp only [Program.fieldsOf, Tryz.underlying24]
  go_simp
set_option maxRecDepth 100000 in
theorem eq_A8 (d : Nat) (a0 a1 a2 a3 a4 a5 a6 a7 : Int) (b0 b1 b2 b3 b4 b5 b6 b7 : Bool) (w : World) : (Op.equalIn (d + 1 + 1 + 1) 25 (.agg #[.int .u16 a0, .bool b0, .int .u16 a1, .bool b1, .int .u16 a2, .bool b2, .int .u16 a3, .bool b3, .int .u16 a4, .bool b4, .int .u16 a5, .bool b5, .int .u16 a6, .bool b6, .int .u16 a7, .bool b7]) (.agg #[.int .u16 a0, .bool b0, .int .u16 a1, .bool b1, .int .u16 a2, .bool b2, .int .u16 a3, .bool b3, .int .u16 a4, .bool b4, .int .u16 a5, .bool b5, .int .u16 a6, .bool b6, .int .u16 a7, .bool b7])).run Tryz.prog w = .ok true w := by
  rw [Op.equalIn]
  simp only [Sem.run_bind, run_underlying Tryz.underlying25, Result.andThen_ok]
  simp only [Std.Legacy.Range.forIn_eq_forIn_range', Std.Legacy.Range.size, Nat.sub_zero, Nat.add_sub_cancel, Nat.div_one, List.range'_succ, List.range'_zero, List.forIn_cons, List.forIn_nil]
  have hv := fun a b => eq_V d a b w
  go_simp
set_option maxRecDepth 100000 in
theorem eq_A4 (d : Nat) (a0 a1 a2 a3 : Int) (b0 b1 b2 b3 : Bool) (w : World) : (Op.equalIn (d + 1 + 1 + 1) 26 (.agg #[.int .u16 a0, .bool b0, .int .u16 a1, .bool b1, .int .u16 a2, .bool b2, .int .u16 a3, .bool b3]) (.agg #[.int .u16 a0, .bool b0, .int .u16 a1, .bool b1, .int .u16 a2, .bool b2, .int .u16 a3, .bool b3])).run Tryz.prog w = .ok true w := by
  rw [Op.equalIn]
  simp only [Sem.run_bind, run_underlying Tryz.underlying26, Result.andThen_ok]
  simp only [Std.Legacy.Range.forIn_eq_forIn_range', Std.Legacy.Range.size, Nat.sub_zero, Nat.add_sub_cancel, Nat.div_one, List.range'_succ, List.range'_zero, List.forIn_cons, List.forIn_nil]
  have hv := fun a b => eq_V d a b w
  go_simp
theorem eq_regs (r : Regs) (w : World) : (Op.equalIn 10000 28 r.val r.val).run Tryz.prog w = .ok true w := by
  have hS : Tryz.prog.underlying 28 = some (.struct (Tryz.prog.fieldsOf 28)) := by kernel_rfl
  rw [show (10000 : Nat) = 9999 + 1 from rfl, run_equalIn_agg w 9999 28 _ _ hS (by kernel_rfl)]
  simp only [Program.fieldsOf, Tryz.underlying28]
  have h8 := eq_A8 9996 r.g0.v r.g1.v r.g2.v r.g3.v r.g4.v r.g5.v r.g6.v r.g7.v r.g0.t r.g1.t r.g2.t r.g3.t r.g4.t r.g5.t r.g6.t r.g7.t w
  have h4 := eq_A4 9996 r.s0.v r.s1.v r.s2.v r.s3.v r.s0.t r.s1.t r.s2.t r.s3.t w
  unfold Regs.cells
  go_simp
end Go.Proofs.YtcglkefaopgjeaaGreatDoor

/- Words for the walks of the Cpu laws: boxes of registers beside a machine; steps. -/
namespace Go.Proofs.YtcglkefaopgjeaaGreatDoor
set_option linter.unusedSimpArgs false
set_option linter.unusedVariables false
open Go.RowKit

/-- A new block of registers that is stored into at once. -/
@[go_sem] theorem putR_alloc_at (w : World) (c : Array Value) (t : TypeId) (n : Nat) (r : Regs) (hn : n = w.heap.size) (hc : c.size = 26) : putR (w.alloc (.cells c t)) n r = w.alloc (.cells r.cells t) := by
  subst hn
  have e : r.cells ++ c.extract 26 c.size = r.cells := by rw [hc]; simp [Array.extract_empty_of_size_le_start, hc]
  unfold putR World.alloc
  congr 1
  apply Array.ext
  · simp
  · intro k h1 h2
    simp only [Array.getElem_modify, Array.getElem_push]
    by_cases hk : k < w.heap.size
    · have : ¬ w.heap.size = k := by omega
      simp [hk, this]
    · have : w.heap.size = k := by simp at h1; omega
      subst this
      simp [e]

theorem fresh_box {w w1 : World} {C : Phys} {lv : Value} (hb : Below w.heap.size w w1) (hn : ∀ k, k < w.heap.size → ¬ C.own lv k) {k : Nat} {cs : Array Value} {t : TypeId} (hr : Row w k cs t) : Box C lv w1 k cs t :=
  ⟨Below.row hb hr hr.lt, hn k hr.lt⟩

/-- What a walk wants to know of a box of registers. -/
structure SeesR (w : World) (k : Nat) (r : Regs) : Prop where
  c : ∀ j, w.cell? ⟨k, j, none⟩ = r.cells[j]?
  f : ∀ j, w.frozen? ⟨k, j, none⟩ = false
  r : regsIn w k = some r.val
  s : stOk w k = true
  l : k < w.heap.size
theorem Row.sees {w : World} {k : Nat} {r : Regs} {t : TypeId} (h : Row w k r.cells t) : SeesR w k r :=
  ⟨h.cell, h.frozen, (regsIn_row h).trans (rowRegs_regs r), stOk_row h (by rw [Regs.size_cells]; decide), h.lt⟩
theorem Row.putRegs {w : World} {k : Nat} {r : Regs} {t : TypeId} (h : Row w k r.cells t) (r2 : Regs) : Row (Go.Proofs.YtcglkefaopgjeaaGreatDoor.putR w k r2) k r2.cells t := by
  have := Row.putR h r2
  rwa [show r2.cells ++ r.cells.extract 26 r.cells.size = r2.cells from by rw [Regs.size_cells]; simp [Array.extract_empty_of_size_le_start, Regs.size_cells]] at this
theorem Box.put {w : World} {C : Phys} {lv : Value} {k : Nat} {r : Regs} {t : TypeId} (h : Box C lv w k r.cells t) (r2 : Regs) : Box C lv (putR w k r2) k r2.cells t := ⟨h.row.putRegs r2, h.no⟩
theorem Box.put_other {w : World} {C : Phys} {lv : Value} {k g : Nat} {cs : Array Value} {t : TypeId} (h : Box C lv w k cs t) (r2 : Regs) (hk : k ≠ g) : Box C lv (putR w g r2) k cs t := ⟨h.row.putR_other r2 hk, h.no⟩
theorem Box.set_other {w : World} {C : Phys} {lv : Value} {k : Nat} {cs : Array Value} {t : TypeId} (h : Box C lv w k cs t) (p : Addr) (v : Value) (hk : k ≠ p.block) : Box C lv (w.setCell p v) k cs t := ⟨h.row.setCell_other p v hk, h.no⟩
theorem Box.set {w : World} {C : Phys} {lv : Value} {k : Nat} {cs : Array Value} {t : TypeId} (h : Box C lv w k cs t) (i : Nat) (v : Value) : Box C lv (w.setCell ⟨k, i, none⟩ v) k (cs.setIfInBounds i v) t := ⟨h.row.setCell i v, h.no⟩
theorem Own.put_other {w : World} {C : Phys} {lv : Value} {m : Mach} (h : Own w C lv m) {g : Nat} (hg : C.b ≠ g ∧ C.mb ≠ g ∧ C.bb ≠ g ∧ C.tb ≠ g ∧ C.wb ≠ g ∧ (∀ k, C.ra = some k → k ≠ g) ∧ (∀ k, lv.ownBlock = some k → k ≠ g)) (r2 : Regs) : Own (Go.Proofs.YtcglkefaopgjeaaGreatDoor.putR w g r2) C lv m :=
  h.kept (own := fun k => k = g) (Fr.putR (Fr.refl (fun k => k = g) w) rfl r2) hg.1 hg.2.1 hg.2.2.1 hg.2.2.2.1 hg.2.2.2.2.1 (fun k hk => hg.2.2.2.2.2.1 k hk) (fun k hk => hg.2.2.2.2.2.2 k hk)

theorem Own.setFresh {w w0 : World} {C : Phys} {lv : Value} {m m0 : Mach} (h : Own w C lv m) (h0 : Own w0 C lv m0) {p : Addr} (hg : w0.heap.size ≤ p.block) (v : Value) : Own (w.setCell p v) C lv m := by
  have no := h0.fresh hg
  refine h.kept (own := fun k => k = p.block) ((Fr.refl (fun k => k = p.block) w).setCell (p := p) rfl v) (fun e => no (Or.inl e.symm)) (fun e => ?_) (fun e => no (Or.inr (Or.inl e.symm))) (fun e => no (Or.inr (Or.inr (Or.inl e.symm)))) (fun e => no (Or.inr (Or.inr (Or.inr (Or.inl e.symm))))) (fun k hk e => ?_) (fun k hk e => no (Or.inr (Or.inr (Or.inr (Or.inr (e ▸ hk))))))
  · have := h0.mem.r.lt; have : C.mb = p.block := e; omega
  · have := (h0.wor.repB k hk).1; have := h0.lt; have : k = p.block := e; have : C.base ≤ w0.heap.size := h0.lt; have : k < C.base := (h0.wor.repB k hk).1; omega
theorem below_past {w W : World} {o : Obj} (h : Below (w.alloc o).heap.size (w.alloc o) W) : Below w.heap.size w W :=
  ((Below.refl w.heap.size w).alloc (Nat.le_refl _) o).trans (h.mono (by simp))
theorem below_step {w w1 w2 : World} {own : Nat → Prop} (h : Below w.heap.size w w1) (f : Fr own w1 w2) (hn : ∀ k, k < w.heap.size → ¬ own k) : Below w.heap.size w w2 :=
  ⟨f.os.trans h.os, f.tape.trans h.tape, f.output.trans h.output, Nat.le_trans h.size f.size, fun k hk => (f.block k (Nat.lt_of_lt_of_le hk h.size) (hn k hk)).trans (h.block k hk)⟩

end Go.Proofs.YtcglkefaopgjeaaGreatDoor

/- Steps of instructions that stand alone in what begin makes; awake. -/
namespace Go.Proofs.YtcglkefaopgjeaaGreatDoor
set_option linter.unusedSimpArgs false
set_option linter.unusedVariables false
open Go.RowKit

theorem sane_begun (r : Regs) (bs : List Int) : Sane (begun r bs) := ⟨rfl, rfl, rfl, rfl, rfl⟩
theorem code_begun (r : Regs) (h0 : 0 ≤ r.ip) (h1 : r.ip ≤ 65535) (bs : List Int) (k : Nat) (hk : k < 65536) : (begun r bs).code k = bs.getD k 0 := by
  have hl := lin256 (IntKind.u16.wrap (r.ip + k)) (wrap16_lo _) (wrap16_hi _)
  show codeMem r.ip bs (lin 256 (IntKind.u16.wrap (r.ip + k))) = _
  rw [IntKind.wrap_u16] at hl ⊢
  unfold codeMem
  rw [if_pos (by omega), show ((((lin 256 ((r.ip + k) % 65536) : Nat) : Int) - 4096 - r.ip) % 65536).toNat = k by omega]
theorem codeIs_begun (r : Regs) (h0 : 0 ≤ r.ip) (h1 : r.ip ≤ 65535) (bs : List Int) (hl : bs.length ≤ 64) : CodeIs (begun r bs) bs := fun k hk => code_begun r h0 h1 bs k (by omega)
theorem opI_wf (op : Int) (h0 : 0 ≤ op) (h1 : op ≤ 255) (imm : Int) (i0 : 0 ≤ imm) (i1 : imm ≤ 65535) : Inst.wf { opI op false 0 0 with imm := imm } :=
  ⟨⟨h0, h1⟩, ⟨by show (0 : Int) ≤ 0; omega, by show (0 : Int) ≤ 3; omega⟩, ⟨by show (0 : Int) ≤ 0; omega, by show (0 : Int) ≤ 7; omega⟩, ⟨by show (0 : Int) ≤ 0; omega, by show (0 : Int) ≤ 7; omega⟩, ⟨by show (0 : Int) ≤ 0; omega, by show (0 : Int) ≤ 65535; omega⟩, ⟨i0, i1⟩, ⟨by show (0 : Int) ≤ 0; omega, by show (0 : Int) ≤ 65535; omega⟩⟩

/-- An instruction of one byte is done. -/
theorem step_alone {C : Phys} {m m' : Mach} (hs : Sane m) (op : Int) (h0 : 0 ≤ op) (h1 : op ≤ 255) (hc : m.code 0 = op) (ho : aloneB op = true) (r : IRow) (hr : isaOf op 0 = some r) (hrep : repsOf r.name = 0) (hfl : isFlow r.name = false)
    (hdo : ∀ (w : World) (lv : Value), Own w C lv (m.on 1) → Calls Tryz.prog 75 #[.pointer (some ⟨C.b, 0, none⟩), Inst.val (opI op false 0 0), r.val, V.val ⟨0, false⟩] w fun e w' => e = .returned (.tuple #[]) ∧ After C lv w m' w') : StepOk C m m' := by
  have hp : isPre op = false := by
    unfold aloneB at ho
    simp only [Bool.and_eq_true, Bool.not_eq_true'] at ho
    exact ho.1.1.1
  intro w lv h
  exact step_any w C lv m m' h hs.state (opI op false 0 0) 1 (take_alone m.code op hc ho) (plainB_sane hs _ _) (by decide) r (by rw [instRow, hp]; exact hr) (opI_wf op h0 h1 0 (by decide) (by decide)) hrep hfl hdo
/-- One with a word behind it. -/
theorem step_imm {C : Phys} {m m' : Mach} (hs : Sane m) (op : Int) (h0 : 0 ≤ op) (h1 : op ≤ 255) (hc : m.code 0 = op) (x : Int) (hx : m.code 1 + 256 * m.code 2 = x) (x0 : 0 ≤ x) (x1 : x ≤ 65535) (r : IRow) (hp : isPre op = false) (h2 : twoOf op = false) (hr : isaOf op 0 = some r) (h4 : immsOf r = 2)
    (hm : mayB { opI op false 0 0 with imm := x } = true) (hrep : repsOf r.name = 0) (hfl : isFlow r.name = false)
    (hdo : ∀ (w : World) (lv : Value), Own w C lv (m.on 3) → Calls Tryz.prog 75 #[.pointer (some ⟨C.b, 0, none⟩), Inst.val { opI op false 0 0 with imm := x }, r.val, V.val ⟨x, false⟩] w fun e w' => e = .returned (.tuple #[]) ∧ After C lv w m' w') : StepOk C m m' := by
  intro w lv h
  have ht := take_word m.code op hc r hp h2 hr h4 (by rw [hx]; exact hm)
  rw [hx] at ht
  exact step_any w C lv m m' h hs.state { opI op false 0 0 with imm := x } 3 ht (plainB_sane hs _ _) (by decide) r (by rw [instRow, hp]; exact hr) (opI_wf op h0 h1 x x0 x1) hrep hfl hdo

abbrev awkB : List Int := [184, 52, 18, 244]
def awk1 : Mach := ((begun zeroR awkB).on 3).setR (((begun zeroR awkB).on 3).r.put 0 ⟨4660, false⟩)
def awk2 : Mach := (awk1.on 1).end 4
theorem awk_mov (C : Phys) : StepOk C (begun zeroR awkB) awk1 := by
  have c := fun k => code_begun zeroR (by decide) (by decide) awkB k
  refine step_imm (sane_begun _ _) 184 (by decide) (by decide) (c 0 (by decide)) 4660 (by rw [c 1 (by decide), c 2 (by decide)]; rfl) (by decide) (by decide) ⟨35, 22, 7, false⟩ (by decide) (by decide) rfl rfl (by decide) (by decide) (by decide) ?_
  intro w lv h
  refine do_move w C lv _ _ h _ ⟨35, 22, 7, false⟩ ⟨4660, false⟩ (Or.inl rfl) ?_
  intro w lv h
  exact move_mov w C lv _ h _ ⟨35, 22, 7, false⟩ ⟨4660, false⟩ ⟨by decide, by decide⟩ rfl (getOk_bare _ (by decide) (by decide) 7 (by decide) (by decide)) (putOk_bare _ (by decide) (by decide) 22 (by decide) (by decide))
theorem sane_awk1 : Sane awk1 := ⟨rfl, rfl, rfl, rfl, rfl⟩
theorem code_awk1 : awk1.code 0 = 244 := by
  have h := codeIs_on (m' := awk1) (codeIs_begun zeroR (by decide) (by decide) awkB (by decide)) 3 rfl rfl (fun k => rfl)
  exact h 0 (by decide)
theorem awk_hlt (C : Phys) : StepOk C awk1 awk2 := by
  refine step_alone sane_awk1 244 (by decide) (by decide) code_awk1 (by decide) ⟨82, 0, 0, false⟩ rfl (by decide) (by decide) ?_
  intro w lv h
  refine do_flags w C lv _ _ h _ ⟨82, 0, 0, false⟩ ⟨0, false⟩ (by decide) ?_
  intro w lv h
  exact flags_82 w C lv _ h ⟨82, 0, 0, false⟩ rfl
end Go.Proofs.YtcglkefaopgjeaaGreatDoor

/- awake. -/
namespace Go.Proofs.YtcglkefaopgjeaaGreatDoor
set_option linter.unusedSimpArgs false
set_option linter.unusedVariables false
open Go.RowKit

def awkM : Nat → Mach
  | 0 => begun zeroR awkB
  | 1 => awk1
  | _ => awk2
theorem awkM_steps (C : Phys) : ∀ k, k < 2 → StepOk C (awkM k) (awkM (k + 1)) := by
  intro k hk
  match k, hk with
  | 0, _ => exact awk_mov C
  | 1, _ => exact awk_hlt C
theorem awk_says : awk2.ev = [⟨4, 0, 0, 0, 0, 0, 0⟩] ∧ awk2.state = 1 ∧ awk2.r.g0.v = 4660 := ⟨rfl, rfl, rfl⟩
theorem awk_wf : ∀ k, 0 ≤ awkB.getD k 0 ∧ awkB.getD k 0 ≤ 255 := by
  intro k
  match k with
  | 0 | 1 | 2 | 3 => decide
  | k + 4 => simp

set_option maxRecDepth 100000 in
set_option maxHeartbeats 1600000 in
theorem awake_any (w : World) : Calls Tryz.prog 18 #[] w fun e w' => e = .returned (.bool true) ∧ Below w.heap.size w w' := by
  have hrow := Row.new w #[.int .u8 184, .int .u8 52, .int .u8 18, .int .u8 244] 5
  have hcell : ∀ k, k < awkB.length → (w.alloc (.cells #[.int .u8 184, .int .u8 52, .int .u8 18, .int .u8 244] 5)).cell? ⟨w.heap.size, k, none⟩ = some (.int .u8 (awkB.getD k 0)) := by
    intro k hk
    rw [hrow.cell]
    match k, hk with
    | 0, _ | 1, _ | 2, _ | 3, _ => rfl
    | k + 4, h => simp at h; omega
  have HC := Lib.hid hcell
  have HL := Lib.hid hrow.lt
  clear hrow hcell
  go_enter Tryz.func18, Tryz.ntmps18
  go_wp2_with fail
  refine (begin_any _ zeroR zeroR_wf w.heap.size 4 awkB HL.out HC.out awk_wf (by decide)).mono ?_
  rintro e w1 ⟨C, lv, rfl, ho, hb, hn⟩; dsimp only
  have HO1 := Lib.hid ho
  have HB1 := Lib.hid (below_past hb)
  have HN := Lib.hid (fun k (hk : k < w.heap.size) => hn k (by simp; omega))
  clear ho hb hn
  go_wp2_with fail
  refine (run_any _ C lv awkM 2 9 (by decide) (by decide) HO1.out (awkM_steps C) (Or.inr (by decide))).mono ?_
  rintro e w2 ⟨rfl, lv2, h2, f2, k2⟩; dsimp only
  have HO2 := Lib.hid (show Own w2 C lv2 awk2 from h2)
  have HB2 := Lib.hid (below_step HB1.out f2 HN.out)
  clear h2 f2 k2
  have c27 : w2.cell? ⟨C.b, 27, none⟩ = some (.pointer (some ⟨C.wb, 0, none⟩)) := (HO2.out.row.cell 27).trans (mcell27 C _)
  go_wp2_with fail
  have hw := HO2.out.wor
  rw [awk_says.1] at hw
  refine (events_any _ _ _ _ _ hw).mono ?_
  rintro e w3 ⟨v3, rfl, hq, hb3⟩; dsimp only
  have HO3 := Lib.hid (HO2.out.below hb3)
  have HB3 := Lib.hid (HB2.out.trans (hb3.mono HB2.out.size))
  have HQ := Lib.hid hq
  have hv3 : ∃ g cap, v3 = .slice (some ⟨g, 0, none⟩) 1 cap := by
    rcases hq.2 with ⟨_, h0⟩ | ⟨g, cap, _, hv, _⟩
    · cases h0
    · exact ⟨g, cap, hv⟩
  clear c27 hw hq hb3
  obtain ⟨g3, cap3, rfl⟩ := hv3
  have e0 : w3.cell? ⟨g3, 0, none⟩ = some (.int .i64 4) := HQ.out.cells (g := g3) rfl 0 _ rfl
  have c0 : w3.cell? ⟨C.b, 0, none⟩ = some (.int .u16 4660) := (HO3.out.row.cell 0).trans rfl
  go_wp2_with fail
  refine (state_any _ _ _ _ HO3.out).mono ?_
  rw [awk_says.2.1]
  rintro e w' ⟨rfl, rfl⟩; dsimp only
  go_wp2_with fail
  go_ret
  exact ⟨rfl, HB3.out⟩
end Go.Proofs.YtcglkefaopgjeaaGreatDoor
