/- core.New; the law's own begin and set. -/
import Derived.Test.YtcglkefaopgjeaaGreatDoorE3
namespace Go.Proofs.YtcglkefaopgjeaaGreatDoor
set_option linter.unusedSimpArgs false
set_option linter.unusedVariables false
open Go.RowKit

def NewM (w : World) (mb bb tb wb : Nat) (ra : Option Nat) (m : Mach) (e : Ending) (w' : World) : Prop :=
  ∃ C : Phys, e = .returned (.pointer (some ⟨C.b, 0, none⟩)) ∧ Own w' C (.slice none 0 0) m ∧ Below w.heap.size w w' ∧ C.b = w.heap.size ∧ C.mb = mb ∧ C.bb = bb ∧ C.tb = tb ∧ C.wb = wb ∧ C.ra = ra

def zV : V := ⟨0, false⟩
def zeroR : Regs := ⟨zV, zV, zV, zV, zV, zV, zV, zV, zV, zV, zV, zV, 0, 0⟩
theorem zeroR_wf : zeroR.wf := by
  have z : zV.wf := ⟨by decide, by decide⟩
  exact ⟨z, z, z, z, z, z, z, z, z, z, z, z, ⟨by decide, by decide⟩, ⟨by decide, by decide⟩⟩

set_option maxRecDepth 100000 in
set_option maxHeartbeats 800000 in
theorem coreNew_any (w : World) (mb bb tb : Nat) (f t : Nat → Int) (hm : MemAt w mb bb tb f t) (p : WPhys) (rs : List Int) (hw : WorldAt w p rs 0 []) (hlv : p.lv = .slice none 0 0) (hbase : p.base = w.heap.size)
    (d1 : mb ≠ p.wb) (d2 : bb ≠ p.wb) (d3 : tb ≠ p.wb) (d4 : ∀ g, p.ra = some g → g ≠ mb ∧ g ≠ bb ∧ g ≠ tb) (para size : Int) (h0 : 0 ≤ para) (h1 : para ≤ 65535) (h2 : 0 ≤ size) (h3 : size ≤ 1048576) :
    Calls Tryz.prog 51 #[.pointer (some ⟨mb, 0, none⟩), .pointer (some ⟨p.wb, 0, none⟩), .int .u16 para, .int .i64 size] w (NewM w mb bb tb p.wb p.ra ⟨zeroR, para * 16, size, 0, f, t, rs, 0, []⟩) := by
  have H := Lib.hid hm
  have HW := Lib.hid hw
  have D4 := Lib.hid d4
  clear hm hw d4
  go_enter Tryz.func51, Tryz.ntmps51
  go_wp2_with fail
  go_ret
  have hb : Below w.heap.size w (w.alloc (.cells (mcells ⟨w.heap.size, mb, bb, tb, p.wb, w.heap.size + 1, p.ra, p.rcap⟩ ⟨zeroR, para * 16, size, 0, f, t, rs, 0, []⟩) 44)) := (Below.refl _ _).alloc (Nat.le_refl _) _
  have hmm := H.out.below hb
  have hww := HW.out.below hb
  have m1 := H.out.r.lt
  have m2 := H.out.b.lt
  have m3 := H.out.t.lt
  have m4 := HW.out.row.lt
  refine ⟨⟨w.heap.size, mb, bb, tb, p.wb, w.heap.size + 1, p.ra, p.rcap⟩, rfl, ⟨Row.new _ _ _, hmm, ?_, ⟨zeroR_wf, ⟨(by show 0 ≤ para * 16; omega), (by show para * 16 ≤ 1048560; omega)⟩, ⟨h2, h3⟩⟩, ?_, ?_, ?_, ?_, d1, d2, d3, ?_, ?_, ?_, ?_, ?_⟩, hb, rfl, rfl, rfl, rfl, rfl, rfl⟩
  · obtain ⟨wb, base, ra, rcap, lv⟩ := p
    dsimp only at hlv hbase
    subst hlv hbase
    refine ⟨hww.row, hww.rep, fun g hg => ⟨Nat.lt_succ_of_lt (HW.out.repB g hg).1, (HW.out.repB g hg).2⟩, World.ownsRow_nil _ _ _ _, Nat.lt_succ_of_lt m4, by simp, hww.le, hww.most, hww.big⟩
  · show w.heap.size ≠ mb; omega
  · show w.heap.size ≠ bb; omega
  · show w.heap.size ≠ tb; omega
  · show w.heap.size ≠ p.wb; omega
  · exact Nat.lt_succ_self _
  · show mb < w.heap.size + 1; omega
  · show bb < w.heap.size + 1; omega
  · show tb < w.heap.size + 1; omega
  · intro g hg
    have := (HW.out.repB g hg).1
    rw [hbase] at this
    exact ⟨by show g ≠ w.heap.size; omega, D4.out g hg⟩
end Go.Proofs.YtcglkefaopgjeaaGreatDoor
