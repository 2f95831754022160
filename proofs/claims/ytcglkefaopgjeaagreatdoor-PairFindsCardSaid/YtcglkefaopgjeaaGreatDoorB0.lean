/- Words: the registers, rows of cells in a world, what loads and stores rows. -/
import Derived.Test.YtcglkefaopgjeaaGreatDoorRows
import Derived.WalkKit
import Derived.WalkLawsBesides
import Derived.WalkSpells
namespace Go.Proofs.YtcglkefaopgjeaaGreatDoor
set_option linter.unusedSimpArgs false
set_option linter.unusedVariables false
open Go.RowKit

/-- A row of cells, not frozen. -/
def Row (w : World) (g : Nat) (cs : Array Value) (t : TypeId) : Prop := w.heap[g]? = some (.cells cs t (0, 0))

theorem Row.lt {w : World} {g : Nat} {cs : Array Value} {t : TypeId} (h : Row w g cs t) : g < w.heap.size := (Array.getElem?_eq_some_iff.1 h).1
theorem Row.new (w : World) (cs : Array Value) (t : TypeId) : Row (w.alloc (.cells cs t)) w.heap.size cs t := heap_alloc_new w _
theorem Row.alloc {w : World} {g : Nat} {cs : Array Value} {t : TypeId} (h : Row w g cs t) (o : Obj) : Row (w.alloc o) g cs t := (Below.heap_alloc w o g h.lt).trans h
theorem Row.drew {w : World} {g : Nat} {cs : Array Value} {t : TypeId} (h : Row w g cs t) : Row w.drew g cs t := h
theorem Row.drewN {w : World} {g n : Nat} {cs : Array Value} {t : TypeId} (h : Row w g cs t) : Row (w.drewN n) g cs t := h
theorem Row.cell {w : World} {g : Nat} {cs : Array Value} {t : TypeId} (h : Row w g cs t) (j : Nat) : w.cell? ⟨g, j, none⟩ = cs[j]? := cell_of_row w g j cs t _ h
theorem Row.frozen {w : World} {g : Nat} {cs : Array Value} {t : TypeId} (h : Row w g cs t) (j : Nat) : w.frozen? ⟨g, j, none⟩ = false := frozen_of_row w g j cs t h
theorem Row.setCell {w : World} {g : Nat} {cs : Array Value} {t : TypeId} (h : Row w g cs t) (i : Nat) (v : Value) : Row (w.setCell ⟨g, i, none⟩ v) g (cs.setIfInBounds i v) t := heap_setCell_same w g i cs t v h
theorem Row.setCell_other {w : World} {g : Nat} {cs : Array Value} {t : TypeId} (h : Row w g cs t) (a : Addr) (v : Value) (hk : g ≠ a.block) : Row (w.setCell a v) g cs t := (heap_setCell_other w a g v hk).trans h
theorem Row.setRow {w : World} {g : Nat} {cs : Array Value} {t : TypeId} (h : Row w g cs t) (new : Array Value) : Row (w.setRow g new) g new t := setRow_heap w g cs new t _ h
theorem Row.setRow_other {w : World} {g : Nat} {cs : Array Value} {t : TypeId} (h : Row w g cs t) (k : Nat) (new : Array Value) (hk : g ≠ k) : Row (w.setRow k new) g cs t := (Go.setRow_other w k g new hk).trans h
theorem Row.of_heap {w : World} {g : Nat} {cs : Array Value} {t : TypeId} (h : w.heap[g]? = some (.cells cs t (0, 0))) : Row w g cs t := h

theorem Below.drewN {B n : Nat} {a w : World} (h : Below B a w) : Below B a (w.drewN n) := ⟨h.os, h.tape, h.output, h.size, h.block⟩
theorem Below.setRow {B : Nat} {a w : World} (h : Below B a w) {g : Nat} (hg : B ≤ g) (cs : Array Value) : Below B a (w.setRow g cs) :=
  h.trans ⟨rfl, rfl, rfl, by simp, fun k hk => by rw [Go.setRow_other w g k cs (by omega)]⟩
theorem Below.row {B : Nat} {w w' : World} (h : Below B w w') {g : Nat} {cs : Array Value} {t : TypeId} (hr : Row w g cs t) (hg : g < B) : Row w' g cs t := (h.block g hg).trans hr

section
variable {P : Program}
/-- A row, or a part of one, is loaded as a whole. -/
theorem run_loadVar_part (w : World) (g off : Nat) (t ty : TypeId) (cs v : Array Value) (d : TypeDesc) (hg : Row w g cs t)
    (hu : P.underlying ty = some d) (hd : (match d with | .struct _ | .array _ _ => true | _ => false) = true) (hi : (P.info? ty).map (·.size) = some v.size)
    (hv : ∀ j, j < v.size → cs[off + j]? = v[j]?) :
    (loadVar ty ⟨g, off, none⟩).run P w = .ok (.agg v) w := by
  have hl : (loadCells ⟨g, off, none⟩ v.toList.length).run P w = .ok v.toList.toArray w :=
    run_loadCells_list (P := P) w ⟨g, off, none⟩ v.toList (fun j x hx => by
      have hadd : (⟨g, off, none⟩ : Addr).add j = ⟨g, off + j, none⟩ := by unfold Addr.add; split <;> simp_all
      have hj : j < v.size := by
        rcases Nat.lt_or_ge j v.size with h | h
        · exact h
        · simp [Array.getElem?_eq_none h] at hx
      rw [hadd, hg.cell, hv j hj]
      simpa using hx)
  cases hq : P.info? ty with
  | none => simp [hq] at hi
  | some i =>
    have hs : i.size = v.size := by simpa [hq] using hi
    have hagg : (isAgg ty).run P w = .ok true w := by
      unfold isAgg
      rw [Sem.run_bind, run_underlying hu w]
      cases d <;> simp_all
    simp only [Array.length_toList, Array.toArray_toList] at hl
    simp [loadVar, Sem.run_bind, hagg, sizeOf, typeInfo, hq, hs, hl]

theorem wpList_load_part {ops : Array Oper} {rest : List Oper} {o : Oper} {a : Act} {w : World} {Q : Exit → Act → World → Prop} (hgd : o.guard = none) (ty : TypeId) (x : Operand) (ho : o.op = .load ty x)
    (g off : Nat) (hx : a.eval x = .pointer (some ⟨g, off, none⟩)) (d : TypeDesc)
    (hu : P.underlying ty = some d) (hd : (match d with | .struct _ | .array _ _ => true | _ => false) = true) (t : TypeId) (cs v : Array Value) (hg : Row w g cs t) (hi : (P.info? ty).map (·.size) = some v.size)
    (hv : ∀ j, j < v.size → cs[off + j]? = v[j]?)
    (h : wpList P ops Q rest (a.put o.dst (.agg v)) w) : wpList P ops Q (o :: rest) a w :=
  wpList_plain hgd fun _ hK => by
    unfold Oper.wp execOp
    simp only [ho, hx, Instr.loadAt, Instr.sureAddr, Sem.run_bind, Sem.run_pure, Result.andThen_ok, run_loadVar_part w g off t ty cs v d hg hu hd hi hv]
    exact hK _ _ h

/-- A row, or a part of one, is stored into. -/
theorem run_storeVar_part (w : World) (g off : Nat) (t ty : TypeId) (cs v new : Array Value) (hg : Row w g cs t) (hi : (P.info? ty).map (·.size) = some v.size)
    (hfit : off + v.size ≤ cs.size) (h1 : v.all (·.oneCell') = true) (hnew : (cs.toList.take off ++ v.toList ++ cs.toList.drop (off + v.size)).toArray = new) :
    (storeVar ty ⟨g, off, none⟩ (.agg v)).run P w = .ok () (w.setRow g new) := by
  have := run_storeCells_at P g off t v.toList 0 cs w hg (by simpa using hfit) (fun x hx => (Array.all_eq_true_iff_forall_mem.1 h1) x (by simpa using hx))
  cases hq : P.info? ty with
  | none => simp [hq] at hi
  | some i =>
    have hs : v.size = i.size := by simp [hq] at hi; omega
    simp only [Nat.add_zero, Array.length_toList] at this
    rw [hnew] at this
    simp [storeVar, sizeOf, typeInfo, hq, Value.cells, hs, this]

theorem wpList_store_part {ops : Array Oper} {rest : List Oper} {o : Oper} {a : Act} {w : World} {Q : Exit → Act → World → Prop} (hgd : o.guard = none) (ty : TypeId) (x y : Operand) (ho : o.op = .store ty x y)
    (g off : Nat) (v : Array Value) (hx : a.eval x = .pointer (some ⟨g, off, none⟩)) (hy : a.eval y = .agg v)
    (t : TypeId) (cs new : Array Value) (hg : Row w g cs t) (hi : (P.info? ty).map (·.size) = some v.size)
    (hfit : off + v.size ≤ cs.size) (h1 : v.all (·.oneCell') = true) (hnew : (cs.toList.take off ++ v.toList ++ cs.toList.drop (off + v.size)).toArray = new)
    (h : wpList P ops Q rest (a.put o.dst undef) (w.setRow g new)) : wpList P ops Q (o :: rest) a w :=
  wpList_plain hgd fun _ hK => by
    unfold Oper.wp execOp
    simp only [ho, hx, hy, Instr.storeAt, Instr.sureAddr, Sem.run_bind, Sem.run_pure, Result.andThen_ok, run_storeVar_part w g off t ty cs v new hg hi hfit h1 hnew]
    exact hK _ _ h
end

structure V where
  v : Int
  t : Bool

structure Regs where
  g0 : V
  g1 : V
  g2 : V
  g3 : V
  g4 : V
  g5 : V
  g6 : V
  g7 : V
  s0 : V
  s1 : V
  s2 : V
  s3 : V
  ip : Int
  f : Int

abbrev V.val (x : V) : Value := .agg #[.int .u16 x.v, .bool x.t]
def Regs.cells (r : Regs) : Array Value := #[.int .u16 r.g0.v, .bool r.g0.t, .int .u16 r.g1.v, .bool r.g1.t, .int .u16 r.g2.v, .bool r.g2.t, .int .u16 r.g3.v, .bool r.g3.t, .int .u16 r.g4.v, .bool r.g4.t, .int .u16 r.g5.v, .bool r.g5.t, .int .u16 r.g6.v, .bool r.g6.t, .int .u16 r.g7.v, .bool r.g7.t, .int .u16 r.s0.v, .bool r.s0.t, .int .u16 r.s1.v, .bool r.s1.t, .int .u16 r.s2.v, .bool r.s2.t, .int .u16 r.s3.v, .bool r.s3.t, .int .u16 r.ip, .int .u16 r.f]
abbrev Regs.val (r : Regs) : Value := .agg r.cells
@[go_sem] theorem Regs.size_cells (r : Regs) : r.cells.size = 26 := rfl
@[go_sem] theorem Regs.cell0 (r : Regs) : r.cells[0]? = some (.int .u16 r.g0.v) := rfl
@[go_sem] theorem Regs.cell1 (r : Regs) : r.cells[1]? = some (.bool r.g0.t) := rfl
@[go_sem] theorem Regs.cell2 (r : Regs) : r.cells[2]? = some (.int .u16 r.g1.v) := rfl
@[go_sem] theorem Regs.cell3 (r : Regs) : r.cells[3]? = some (.bool r.g1.t) := rfl
@[go_sem] theorem Regs.cell4 (r : Regs) : r.cells[4]? = some (.int .u16 r.g2.v) := rfl
@[go_sem] theorem Regs.cell5 (r : Regs) : r.cells[5]? = some (.bool r.g2.t) := rfl
@[go_sem] theorem Regs.cell6 (r : Regs) : r.cells[6]? = some (.int .u16 r.g3.v) := rfl
@[go_sem] theorem Regs.cell7 (r : Regs) : r.cells[7]? = some (.bool r.g3.t) := rfl
@[go_sem] theorem Regs.cell8 (r : Regs) : r.cells[8]? = some (.int .u16 r.g4.v) := rfl
@[go_sem] theorem Regs.cell9 (r : Regs) : r.cells[9]? = some (.bool r.g4.t) := rfl
@[go_sem] theorem Regs.cell10 (r : Regs) : r.cells[10]? = some (.int .u16 r.g5.v) := rfl
@[go_sem] theorem Regs.cell11 (r : Regs) : r.cells[11]? = some (.bool r.g5.t) := rfl
@[go_sem] theorem Regs.cell12 (r : Regs) : r.cells[12]? = some (.int .u16 r.g6.v) := rfl
@[go_sem] theorem Regs.cell13 (r : Regs) : r.cells[13]? = some (.bool r.g6.t) := rfl
@[go_sem] theorem Regs.cell14 (r : Regs) : r.cells[14]? = some (.int .u16 r.g7.v) := rfl
@[go_sem] theorem Regs.cell15 (r : Regs) : r.cells[15]? = some (.bool r.g7.t) := rfl
@[go_sem] theorem Regs.cell16 (r : Regs) : r.cells[16]? = some (.int .u16 r.s0.v) := rfl
@[go_sem] theorem Regs.cell17 (r : Regs) : r.cells[17]? = some (.bool r.s0.t) := rfl
@[go_sem] theorem Regs.cell18 (r : Regs) : r.cells[18]? = some (.int .u16 r.s1.v) := rfl
@[go_sem] theorem Regs.cell19 (r : Regs) : r.cells[19]? = some (.bool r.s1.t) := rfl
@[go_sem] theorem Regs.cell20 (r : Regs) : r.cells[20]? = some (.int .u16 r.s2.v) := rfl
@[go_sem] theorem Regs.cell21 (r : Regs) : r.cells[21]? = some (.bool r.s2.t) := rfl
@[go_sem] theorem Regs.cell22 (r : Regs) : r.cells[22]? = some (.int .u16 r.s3.v) := rfl
@[go_sem] theorem Regs.cell23 (r : Regs) : r.cells[23]? = some (.bool r.s3.t) := rfl
@[go_sem] theorem Regs.cell24 (r : Regs) : r.cells[24]? = some (.int .u16 r.ip) := rfl
@[go_sem] theorem Regs.cell25 (r : Regs) : r.cells[25]? = some (.int .u16 r.f) := rfl
@[go_sem] theorem Regs.set_g0 (r : Regs) (x : Int) (b : Bool) : (r.cells.setIfInBounds 0 (.int .u16 x)).setIfInBounds 1 (.bool b) = ({ r with g0 := ⟨x, b⟩ } : Regs).cells := rfl
@[go_sem] theorem Regs.set_g1 (r : Regs) (x : Int) (b : Bool) : (r.cells.setIfInBounds 2 (.int .u16 x)).setIfInBounds 3 (.bool b) = ({ r with g1 := ⟨x, b⟩ } : Regs).cells := rfl
@[go_sem] theorem Regs.set_g2 (r : Regs) (x : Int) (b : Bool) : (r.cells.setIfInBounds 4 (.int .u16 x)).setIfInBounds 5 (.bool b) = ({ r with g2 := ⟨x, b⟩ } : Regs).cells := rfl
@[go_sem] theorem Regs.set_g3 (r : Regs) (x : Int) (b : Bool) : (r.cells.setIfInBounds 6 (.int .u16 x)).setIfInBounds 7 (.bool b) = ({ r with g3 := ⟨x, b⟩ } : Regs).cells := rfl
@[go_sem] theorem Regs.set_g4 (r : Regs) (x : Int) (b : Bool) : (r.cells.setIfInBounds 8 (.int .u16 x)).setIfInBounds 9 (.bool b) = ({ r with g4 := ⟨x, b⟩ } : Regs).cells := rfl
@[go_sem] theorem Regs.set_g5 (r : Regs) (x : Int) (b : Bool) : (r.cells.setIfInBounds 10 (.int .u16 x)).setIfInBounds 11 (.bool b) = ({ r with g5 := ⟨x, b⟩ } : Regs).cells := rfl
@[go_sem] theorem Regs.set_g6 (r : Regs) (x : Int) (b : Bool) : (r.cells.setIfInBounds 12 (.int .u16 x)).setIfInBounds 13 (.bool b) = ({ r with g6 := ⟨x, b⟩ } : Regs).cells := rfl
@[go_sem] theorem Regs.set_g7 (r : Regs) (x : Int) (b : Bool) : (r.cells.setIfInBounds 14 (.int .u16 x)).setIfInBounds 15 (.bool b) = ({ r with g7 := ⟨x, b⟩ } : Regs).cells := rfl
@[go_sem] theorem Regs.set_s0 (r : Regs) (x : Int) (b : Bool) : (r.cells.setIfInBounds 16 (.int .u16 x)).setIfInBounds 17 (.bool b) = ({ r with s0 := ⟨x, b⟩ } : Regs).cells := rfl
@[go_sem] theorem Regs.set_s1 (r : Regs) (x : Int) (b : Bool) : (r.cells.setIfInBounds 18 (.int .u16 x)).setIfInBounds 19 (.bool b) = ({ r with s1 := ⟨x, b⟩ } : Regs).cells := rfl
@[go_sem] theorem Regs.set_s2 (r : Regs) (x : Int) (b : Bool) : (r.cells.setIfInBounds 20 (.int .u16 x)).setIfInBounds 21 (.bool b) = ({ r with s2 := ⟨x, b⟩ } : Regs).cells := rfl
@[go_sem] theorem Regs.set_s3 (r : Regs) (x : Int) (b : Bool) : (r.cells.setIfInBounds 22 (.int .u16 x)).setIfInBounds 23 (.bool b) = ({ r with s3 := ⟨x, b⟩ } : Regs).cells := rfl
@[go_sem] theorem Regs.set_ip (r : Regs) (x : Int) : r.cells.setIfInBounds 24 (.int .u16 x) = ({ r with ip := x } : Regs).cells := rfl
@[go_sem] theorem Regs.set_f (r : Regs) (x : Int) : r.cells.setIfInBounds 25 (.int .u16 x) = ({ r with f := x } : Regs).cells := rfl
theorem Regs.one (r : Regs) : r.cells.all (·.oneCell') = true := by simp [Regs.cells, Value.oneCell']

def zeroV : V := ⟨0, false⟩

def Regs.get (r : Regs) (n : Int) : V :=
  if n = 0 then r.g0 else if n = 1 then r.g1 else if n = 2 then r.g2 else if n = 3 then r.g3 else
  if n = 4 then r.g4 else if n = 5 then r.g5 else if n = 6 then r.g6 else if n = 7 then r.g7 else zeroV

def Regs.put (r : Regs) (n : Int) (v : V) : Regs :=
  if n = 0 then { r with g0 := v } else if n = 1 then { r with g1 := v } else if n = 2 then { r with g2 := v } else if n = 3 then { r with g3 := v } else
  if n = 4 then { r with g4 := v } else if n = 5 then { r with g5 := v } else if n = 6 then { r with g6 := v } else if n = 7 then { r with g7 := v } else r

def Regs.seg (r : Regs) (n : Int) : V :=
  if n = 0 then r.s0 else if n = 1 then r.s1 else if n = 2 then r.s2 else if n = 3 then r.s3 else zeroV

def Regs.putSeg (r : Regs) (n : Int) (v : V) : Regs :=
  if n = 0 then { r with s0 := v } else if n = 1 then { r with s1 := v } else if n = 2 then { r with s2 := v } else if n = 3 then { r with s3 := v } else r

theorem cases8 {n : Int} (h0 : 0 ≤ n) (h8 : n < 8) : n = 0 ∨ n = 1 ∨ n = 2 ∨ n = 3 ∨ n = 4 ∨ n = 5 ∨ n = 6 ∨ n = 7 := by omega
theorem cases4 {n : Int} (h0 : 0 ≤ n) (h8 : n ≤ 3) : n = 0 ∨ n = 1 ∨ n = 2 ∨ n = 3 := by omega
theorem Regs.get_out (r : Regs) {n : Int} (h : ¬ (0 ≤ n ∧ n < 8)) : r.get n = zeroV := by
  simp only [Regs.get]; repeat rw [if_neg (by omega)]
theorem Regs.put_out (r : Regs) (v : V) {n : Int} (h : ¬ (0 ≤ n ∧ n < 8)) : r.put n v = r := by
  simp only [Regs.put]; repeat rw [if_neg (by omega)]
theorem Regs.seg_out (r : Regs) {n : Int} (h : ¬ (0 ≤ n ∧ n ≤ 3)) : r.seg n = zeroV := by
  simp only [Regs.seg]; repeat rw [if_neg (by omega)]
theorem Regs.putSeg_out (r : Regs) (v : V) {n : Int} (h : ¬ (0 ≤ n ∧ n ≤ 3)) : r.putSeg n v = r := by
  simp only [Regs.putSeg]; repeat rw [if_neg (by omega)]

theorem Row.new' {w : World} {n : Nat} {cs : Array Value} {t : TypeId} (h : n = w.heap.size) : Row (w.alloc (.cells cs t)) n cs t := h ▸ Row.new w cs t
@[go_sem] theorem setRow_alloc_at (w : World) (c new : Array Value) (t : TypeId) (n : Nat) (hn : n = w.heap.size) : (w.alloc (.cells c t)).setRow n new = w.alloc (.cells new t) := by
  subst hn
  unfold World.setRow World.alloc
  congr 1
  apply Array.ext
  · simp
  · intro k h1 h2
    simp only [Array.getElem_modify, Array.getElem_push]
    by_cases hk : k < w.heap.size
    · have : ¬ w.heap.size = k := by omega
      simp [hk, this]
    · have : w.heap.size = k := by simp at h1; omega
      subst this
      simp
@[go_sem] theorem setRow_alloc_past (w : World) (o : Obj) (new : Array Value) (n : Nat) (hn : n < w.heap.size) : (w.alloc o).setRow n new = (w.setRow n new).alloc o := by
  unfold World.setRow World.alloc
  congr 1
  apply Array.ext
  · simp
  · intro k h1 h2
    simp only [Array.getElem_modify, Array.getElem_push, Array.size_modify]
    by_cases hk : k < w.heap.size
    · simp [hk]
    · have : ¬ n = k := by omega
      simp [hk, this]
@[go_sem] theorem setRow_drew (w : World) (new : Array Value) (n : Nat) : w.drew.setRow n new = (w.setRow n new).drew := rfl

section
variable {ops : Array Oper} {rest : List Oper} {o : Oper} {a : Act} {w : World} {Q : Exit → Act → World → Prop}
theorem info_regs : (Tryz.prog.info? 28).map (·.size) = some 26 := by kernel_rfl
/-- A row of registers is loaded. -/
theorem load_regs (hgd : o.guard = none) (x : Operand) (ho : o.op = .load 28 x) (g : Nat) (hx : a.eval x = .pointer (some ⟨g, 0, none⟩)) (r : Regs) (t : TypeId) (hg : Row w g r.cells t)
    (h : wpList Tryz.prog ops Q rest (a.put o.dst r.val) w) : wpList Tryz.prog ops Q (o :: rest) a w :=
  wpList_load_part hgd _ x ho g 0 hx _ Tryz.underlying28 rfl t r.cells r.cells hg info_regs (fun j _ => by rw [Nat.zero_add]) h
/-- A row of 26 cells becomes a row of registers. -/
theorem store_regs (hgd : o.guard = none) (x y : Operand) (ho : o.op = .store 28 x y) (g : Nat) (hx : a.eval x = .pointer (some ⟨g, 0, none⟩)) (r : Regs) (hy : a.eval y = .agg r.cells)
    (cs : Array Value) (t : TypeId) (hg : Row w g cs t) (h26 : cs.size = 26)
    (h : wpList Tryz.prog ops Q rest (a.put o.dst undef) (w.setRow g r.cells)) : wpList Tryz.prog ops Q (o :: rest) a w :=
  wpList_store_part hgd _ x y ho g 0 r.cells hx hy t cs r.cells hg info_regs (by rw [Regs.size_cells]; omega) (Regs.one r)
    (by rw [List.take_zero, List.nil_append, Nat.zero_add, Regs.size_cells, List.drop_of_length_le (by simp; omega), List.append_nil, Array.toArray_toList]) h
end

theorem results_row {P : Program} {fn : Func} {p : Tmp} {ty : TypeId} (h : fn.results = #[.cell p ty]) (tmps : Array Value) (w : World) (g : Nat) (t : TypeId) (cs : Array Value) (d : TypeDesc)
    (hp : tmps.getD p undef = .pointer (some ⟨g, 0, none⟩)) (hg : Row w g cs t)
    (hu : P.underlying ty = some d) (hd : (match d with | .struct _ | .array _ _ => true | _ => false) = true) (hi : (P.info? ty).map (·.size) = some cs.size) :
    (results fn tmps).run P w = .ok (.agg cs) w := results_cell_row h tmps w g t cs _ d hp hg hu hd hi
theorem results_regs {fn : Func} {p : Tmp} (h : fn.results = #[.cell p 28]) (tmps : Array Value) (w : World) (g : Nat) (t : TypeId) (r : Regs)
    (hp : tmps.getD p undef = .pointer (some ⟨g, 0, none⟩)) (hg : Row w g r.cells t) : (results fn tmps).run Tryz.prog w = .ok r.val w :=
  results_cell_row h tmps w g t r.cells _ _ hp hg Tryz.underlying28 rfl info_regs
end Go.Proofs.YtcglkefaopgjeaaGreatDoor
