/- What core's registers' bytes, operands and places come to: definitions, no program in sight but the seat's words. -/
import Derived.Test.YtcglkefaopgjeaaGreatDoorEB
namespace Go.Proofs.YtcglkefaopgjeaaGreatDoor
set_option linter.unusedSimpArgs false
set_option linter.unusedVariables false
open Go.RowKit

/-- A register's byte; whether it is plain; the registers with another one. -/
def Regs.byteV (r : Regs) (n : Int) : Int := if 0 ≤ n ∧ n < 8 then (if 3 < n then (r.get (n % 4)).v / 256 else (r.get (n % 4)).v % 256) else 0
def Regs.byteC (r : Regs) (n : Int) : Bool := if 0 ≤ n ∧ n < 8 then !(r.get (n % 4)).t else true
def Regs.putByte (r : Regs) (n b : Int) : Regs := if 0 ≤ n ∧ n < 8 then r.put (n % 4) ⟨if 3 < n then (r.get (n % 4)).v % 256 + 256 * b else b + 256 * ((r.get (n % 4)).v / 256), false⟩ else r
def Mach.sure (m : Mach) (b : Bool) : Mach := if b then m else m.stuck
def Mach.regByteM (m : Mach) (n : Int) : Mach := m.sure (m.r.byteC n)
def Mach.setRegByte (m : Mach) (n v : Int) : Mach := if m.r.byteC n then m.setR (m.r.putByte n (v % 256)) else m.stuck

/-- Where an instruction's second byte tells something is. -/
def basesOf (rm : Int) : Int × Int := if rm = 0 then (3, 6) else if rm = 1 then (3, 7) else if rm = 2 then (5, 6) else if rm = 3 then (5, 7) else if rm = 4 then (6, -1) else if rm = 5 then (7, -1) else if rm = 6 then (5, -1) else (3, -1)
def Regs.offOn (r : Regs) (p : Int × Bool) (n : Int) : Int × Bool := if n < 0 then p else (IntKind.u16.wrap (p.1 + (r.get n).v), p.2 && !(r.get n).t)
def Regs.offOf (r : Regs) (i : Inst) : Int × Bool :=
  if i.mod = 3 ∨ i.mod < 0 ∨ i.rm < 0 ∨ 7 < i.rm then (0, true)
  else if i.mod = 0 ∧ i.rm = 6 then (i.disp, true)
  else r.offOn (r.offOn (i.disp, true) (basesOf i.rm).1) (basesOf i.rm).2
def Inst.defSeg (i : Inst) : Int := if 0 < i.seg ∧ i.seg ≤ 4 then i.seg - 1 else if i.mod = 3 then 3 else if i.rm = 2 ∨ i.rm = 3 ∨ (i.rm = 6 ∧ i.mod ≠ 0) then 2 else 3
def Inst.dirSeg (i : Inst) : Int := if 0 < i.seg ∧ i.seg ≤ 4 then i.seg - 1 else 3
def Mach.placeS (m : Mach) (i : Inst) : V := m.r.seg i.defSeg
def Mach.placeO (m : Mach) (i : Inst) : Int := (m.r.offOf i).1
def Mach.placeM (m : Mach) (i : Inst) : Mach := m.sure (m.r.offOf i).2
def Mach.directS (m : Mach) (i : Inst) : V := m.r.seg i.dirSeg

/-- An operand's value, and the machine behind the asking. -/
def Mach.getV (m : Mach) (i : Inst) (op : Int) (tail : V) : V :=
  if op = 1 then (if i.mod = 3 then ⟨m.r.byteV i.rm, false⟩ else ⟨m.mem (lin (m.placeS i).v (m.placeO i)), false⟩)
  else if op = 2 then (if i.mod = 3 then m.r.get i.rm else m.wordV (m.placeS i) (m.placeO i))
  else if op = 3 then ⟨m.r.byteV i.reg, false⟩
  else if op = 4 then m.r.get i.reg
  else if op = 5 then m.r.seg i.reg
  else if op = 6 ∨ op = 7 ∨ op = 8 then tail
  else if op = 12 then ⟨m.mem (lin (m.directS i).v i.imm), false⟩
  else if op = 13 then m.wordV (m.directS i) i.imm
  else if op = 14 then ⟨m.r.byteV 0, false⟩
  else if op = 15 then ⟨m.r.byteV 1, false⟩
  else if op = 16 then m.r.g0
  else if op = 17 then m.r.g2
  else if op = 18 then ⟨1, false⟩
  else if op = 24 then ⟨3, false⟩
  else if op = 21 then ⟨m.r.byteV (i.op % 8), false⟩
  else if op = 22 then m.r.get (i.op % 8)
  else if op = 23 then m.r.seg (i.op / 8 % 4)
  else zeroV
def Mach.getM (m : Mach) (i : Inst) (op : Int) : Mach :=
  if op = 1 then (if i.mod = 3 then m.regByteM i.rm else (m.placeM i).byteS (m.placeS i) (m.placeO i))
  else if op = 2 then (if i.mod = 3 then m else (m.placeM i).wordS (m.placeS i) (m.placeO i))
  else if op = 3 then m.regByteM i.reg
  else if op = 12 then m.byteS (m.directS i) i.imm
  else if op = 13 then m.wordS (m.directS i) i.imm
  else if op = 14 then m.regByteM 0
  else if op = 15 then m.regByteM 1
  else if op = 21 then m.regByteM (i.op % 8)
  else m
/-- A byte of memory is another one. -/
def Mach.setByteOk (m : Mach) (seg : V) (off : Int) : Bool := m.owns seg off 1 && m.tag (lin seg.v off) == 0
def Mach.putMemByte (m : Mach) (seg : V) (off v : Int) : Mach := { m with mem := upd m.mem (lin seg.v off) v, tag := upd m.tag (lin seg.v off) 0 }
def Mach.setMemByte (m : Mach) (seg : V) (off v : Int) : Mach := if m.setByteOk seg off then m.putMemByte seg off v else m.stuck
/-- An operand has another value. -/
def Mach.putV (m : Mach) (i : Inst) (op : Int) (v : V) : Mach :=
  if op = 1 then (if i.mod = 3 then m.setRegByte i.rm v.v else (m.placeM i).setMemByte (m.placeS i) (m.placeO i) (v.v % 256))
  else if op = 2 then (if i.mod = 3 then m.setR (m.r.put i.rm v) else (m.placeM i).setWord (m.placeS i) (m.placeO i) v)
  else if op = 3 then m.setRegByte i.reg v.v
  else if op = 4 then m.setR (m.r.put i.reg v)
  else if op = 5 then m.setR (m.r.putSeg i.reg v)
  else if op = 12 then m.setMemByte (m.directS i) i.imm (v.v % 256)
  else if op = 13 then m.setWord (m.directS i) i.imm v
  else if op = 14 then m.setRegByte 0 v.v
  else if op = 16 then m.setR (m.r.put 0 v)
  else if op = 21 then m.setRegByte (i.op % 8) v.v
  else if op = 22 then m.setR (m.r.put (i.op % 8) v)
  else if op = 23 then m.setR (m.r.putSeg (i.op / 8 % 4) v)
  else m
/-- No operand of memory. -/
def bare (i : Inst) (op : Int) : Prop := ((op = 1 ∨ op = 2) → i.mod = 3) ∧ op ≠ 12 ∧ op ≠ 13

theorem Regs.get_wf {r : Regs} (h : r.wf) (n : Int) : (r.get n).wf := by
  unfold Regs.get
  repeat (split; first | exact h.g0 | exact h.g1 | exact h.g2 | exact h.g3 | exact h.g4 | exact h.g5 | exact h.g6 | exact h.g7)
  exact ⟨by decide, by decide⟩
theorem Regs.seg_wf {r : Regs} (h : r.wf) (n : Int) : (r.seg n).wf := by
  unfold Regs.seg
  repeat (split; first | exact h.s0 | exact h.s1 | exact h.s2 | exact h.s3)
  exact ⟨by decide, by decide⟩
theorem Regs.put_wf {r : Regs} (h : r.wf) (n : Int) {x : V} (hx : x.wf) : (r.put n x).wf := by
  unfold Regs.put
  split; exact { h with g0 := hx }
  split; exact { h with g1 := hx }
  split; exact { h with g2 := hx }
  split; exact { h with g3 := hx }
  split; exact { h with g4 := hx }
  split; exact { h with g5 := hx }
  split; exact { h with g6 := hx }
  split; exact { h with g7 := hx }
  exact h
theorem Regs.putSeg_wf {r : Regs} (h : r.wf) (n : Int) {x : V} (hx : x.wf) : (r.putSeg n x).wf := by
  unfold Regs.putSeg
  split; exact { h with s0 := hx }
  split; exact { h with s1 := hx }
  split; exact { h with s2 := hx }
  split; exact { h with s3 := hx }
  exact h
theorem Regs.byte_wf {r : Regs} (h : r.wf) (n : Int) : 0 ≤ r.byteV n ∧ r.byteV n ≤ 255 := by
  have := Regs.get_wf h (n % 4)
  unfold V.wf at this
  unfold Regs.byteV
  split
  · split <;> omega
  · omega
theorem Regs.putByte_wf {r : Regs} (h : r.wf) (n b : Int) (h0 : 0 ≤ b) (h1 : b ≤ 255) : (r.putByte n b).wf := by
  have := Regs.get_wf h (n % 4)
  unfold V.wf at this
  unfold Regs.putByte
  split
  · refine Regs.put_wf h _ ?_
    unfold V.wf
    dsimp only
    split <;> omega
  · exact h
theorem Mach.wordV_stuck (m : Mach) (seg : V) (off : Int) : m.stuck.wordV seg off = m.wordV seg off := by unfold Mach.stuck; split <;> rfl
theorem Mach.wordV_sure (m : Mach) (b : Bool) (seg : V) (off : Int) : (m.sure b).wordV seg off = m.wordV seg off := by unfold Mach.sure; split; rfl; exact m.wordV_stuck seg off
theorem Mach.mem_stuck (m : Mach) : m.stuck.mem = m.mem := by unfold Mach.stuck; split <;> rfl
theorem Mach.mem_sure (m : Mach) (b : Bool) : (m.sure b).mem = m.mem := by unfold Mach.sure; split; rfl; exact m.mem_stuck
theorem Mach.r_sure (m : Mach) (b : Bool) : (m.sure b).r = m.r := by unfold Mach.sure; split; rfl; exact stuck_r m
theorem getV_wf {w : World} {C : Phys} {lv : Value} {m : Mach} (h : Own w C lv m) (i : Inst) (op : Int) {tail : V} (ht : tail.wf) : (m.getV i op tail).wf := by
  have hb := fun n => Regs.byte_wf h.wf.r n
  have hm := fun x => h.mem.wf x
  have b : ∀ n, V.wf ⟨m.r.byteV n, false⟩ := fun n => ⟨(hb n).1, by show m.r.byteV n ≤ 65535; have := (hb n).2; omega⟩
  have c : ∀ x, V.wf ⟨m.mem x, false⟩ := fun x => ⟨(hm x).1, by show m.mem x ≤ 65535; have := (hm x).2; omega⟩
  have z : ∀ x : Int, 0 ≤ x → x ≤ 65535 → V.wf ⟨x, false⟩ := fun x h0 h1 => ⟨h0, h1⟩
  have key : ∀ (p : Prop) [Decidable p] (x y : V), x.wf → y.wf → (if p then x else y).wf := fun p _ x y hx hy => by split; exact hx; exact hy
  unfold Mach.getV
  repeat' (first | exact b _ | exact Regs.get_wf h.wf.r _ | exact Regs.seg_wf h.wf.r _ | exact ht | exact c _ | exact mem_wf h _ _ | exact h.wf.r.g0 | exact h.wf.r.g2 | exact z 1 (by decide) (by decide) | exact z 3 (by decide) (by decide) | exact z 0 (by decide) (by decide) | refine key _ _ _ ?_ ?_)
end Go.Proofs.YtcglkefaopgjeaaGreatDoor
