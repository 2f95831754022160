/- Rows of registers are loaded and stored at one stroke. -/
import Derived.Test.YtcglkefaopgjeaaGreatDoorD0
namespace Go.Proofs.YtcglkefaopgjeaaGreatDoor
set_option linter.unusedSimpArgs false
set_option linter.unusedVariables false
open Go.RowKit

def rowRegs (c : Array Value) : Option Value := if 26 ≤ c.size then some (.agg (c.extract 0 26)) else none
@[go_sem] theorem rowRegs_regs (r : Regs) : rowRegs r.cells = some r.val := by
  have h : r.cells.extract 0 26 = r.cells := by
    have := Array.extract_size (xs := r.cells)
    rwa [Regs.size_cells] at this
  unfold rowRegs
  rw [if_pos (by rw [Regs.size_cells]; decide), h]
@[go_sem] theorem rowRegs_mcells (C : Phys) (m : Mach) : rowRegs (mcells C m) = some m.r.val := by
  have h : (mcells C m).extract 0 26 = m.r.cells := by
    apply Array.ext'
    rw [Array.toList_extract, List.extract_eq_take_drop, mcells, Array.toList_append, List.drop_zero, Nat.sub_zero]
    exact List.take_left' (by rw [Array.length_toList, Regs.size_cells])
  unfold rowRegs
  rw [if_pos (by rw [msize]; decide), h]
theorem modify_congr (h : Array Obj) (g : Nat) (f f' : Obj → Obj) (o : Obj) (hg : h[g]? = some o) (he : f o = f' o) : h.modify g f = h.modify g f' := by
  apply Array.ext_getElem?
  intro k
  rw [Array.getElem?_modify, Array.getElem?_modify]
  by_cases hk : g = k
  · subst hk; rw [if_pos rfl, if_pos rfl, hg, Option.map_some, Option.map_some, he]
  · rw [if_neg hk, if_neg hk]
def regsIn (w : World) (g : Nat) : Option Value := match w.heap[g]? with | some (.cells c _ _) => rowRegs c | _ => none
def stOk (w : World) (g : Nat) : Bool := match w.heap[g]? with | some (.cells c _ (0, 0)) => decide (26 ≤ c.size) | _ => false
/-- The registers that begin a row are others. -/
def putR (w : World) (g : Nat) (r : Regs) : World := { w with heap := w.heap.modify g fun | .cells c e fr => .cells (r.cells ++ c.extract 26 c.size) e fr | o => o }

def loadRegs (x : Value) : Sem Value := Instr.loadAt 28 x
def storeRegs (x v : Value) : Sem Unit := Instr.storeAt 28 x v
@[go_sem ↓] theorem loadAt_regs (x : Value) : Instr.loadAt 28 x = loadRegs x := rfl
@[go_sem ↓] theorem storeAt_regs (x v : Value) : Instr.storeAt 28 x v = storeRegs x v := rfl

theorem regsIn_row {w : World} {g : Nat} {cs : Array Value} {t : TypeId} (h : Row w g cs t) : regsIn w g = rowRegs cs := by
  unfold regsIn; rw [show w.heap[g]? = _ from h]
theorem stOk_row {w : World} {g : Nat} {cs : Array Value} {t : TypeId} (h : Row w g cs t) (hs : 26 ≤ cs.size) : stOk w g = true := by
  unfold stOk; rw [show w.heap[g]? = _ from h]; simpa using hs

theorem run_loadRegs (w : World) (g : Nat) (v : Value) (h : regsIn w g = some v) : (loadRegs (.pointer (some ⟨g, 0, none⟩))).run Tryz.prog w = .ok v w := by
  unfold regsIn at h
  split at h
  · rename_i c e fr hg
    unfold rowRegs at h
    split at h
    · rename_i h26
      simp only [Option.some.injEq] at h
      subst h
      have hl : (loadCells ⟨g, 0, none⟩ (c.extract 0 26).toList.length).run Tryz.prog w = .ok (c.extract 0 26).toList.toArray w :=
        run_loadCells_list (P := Tryz.prog) w ⟨g, 0, none⟩ (c.extract 0 26).toList (fun j x hx => by
          have hadd : (⟨g, 0, none⟩ : Addr).add j = ⟨g, j, none⟩ := by unfold Addr.add; split <;> simp_all
          rw [hadd]
          simp only [Array.toList_extract, List.extract_eq_take_drop, List.drop_zero, Nat.sub_zero, List.getElem?_take] at hx
          split at hx
          · simp only [World.cell?, hg]; simpa using hx
          · simp at hx)
      have hs : (c.extract 0 26).toList.length = 26 := by simp; omega
      rw [hs] at hl
      have hi := info_regs
      cases hq : Tryz.prog.info? 28 with
      | none => simp [hq] at hi
      | some i =>
        have hs2 : i.size = 26 := by simpa [hq] using hi
        have hagg : (isAgg 28).run Tryz.prog w = .ok true w := by
          unfold isAgg
          rw [Sem.run_bind, run_underlying Tryz.underlying28 w]
          rfl
        simp only [Array.toArray_toList] at hl
        simp [loadRegs, Instr.loadAt, Instr.sureAddr, loadVar, Sem.run_bind, hagg, sizeOf, typeInfo, hq, hs2, hl]
    · exact absurd h (by simp)
  · exact absurd h (by simp)

theorem run_storeRegs (w : World) (g : Nat) (r : Regs) (h : stOk w g = true) : (storeRegs (.pointer (some ⟨g, 0, none⟩)) r.val).run Tryz.prog w = .ok () (putR w g r) := by
  unfold stOk at h
  split at h
  · rename_i c e hg
    simp only [decide_eq_true_eq] at h
    have := run_storeVar_part (P := Tryz.prog) w g 0 e 28 c r.cells (r.cells ++ c.extract 26 c.size) hg info_regs (by rw [Regs.size_cells]; omega) (Regs.one r) (by
      apply Array.ext'
      rw [List.take_zero, List.nil_append, Nat.zero_add, Regs.size_cells, Array.toList_append, Array.toList_extract, List.extract_eq_take_drop]
      rw [List.take_of_length_le (by rw [List.length_drop, Array.length_toList]; exact Nat.le_refl _)])
    have hp : putR w g r = w.setRow g (r.cells ++ c.extract 26 c.size) := by
      unfold putR World.setRow
      exact congrArg (fun h => ({ w with heap := h } : World)) (modify_congr w.heap g _ _ _ hg rfl)
    rw [hp]
    simpa [storeRegs, Instr.storeAt, Instr.sureAddr, Sem.run_bind] using this
  · exact absurd h (by simp)

noncomputable def loadStuck (w : World) (g : Nat) : Result Value := (loadRegs (.pointer (some ⟨g, 0, none⟩))).run Tryz.prog w
@[go_sem] theorem run_loadRegs' (w : World) (g : Nat) : (loadRegs (.pointer (some ⟨g, 0, none⟩))).run Tryz.prog w = match regsIn w g with | some v => .ok v w | none => loadStuck w g := by
  cases h : regsIn w g with
  | none => rfl
  | some v => exact run_loadRegs w g v h
/-! How these words go over what a world is made of. -/
@[go_sem] theorem regsIn_alloc_at (w : World) (c : Array Value) (t : TypeId) (n : Nat) (hn : n = w.heap.size) : regsIn (w.alloc (.cells c t)) n = rowRegs c := regsIn_row (Row.new' hn)
@[go_sem] theorem regsIn_alloc_past (w : World) (o : Obj) (n : Nat) (hn : n < w.heap.size) : regsIn (w.alloc o) n = regsIn w n := by
  unfold regsIn; rw [Below.heap_alloc w o n hn]
@[go_sem] theorem regsIn_drew (w : World) (n : Nat) : regsIn w.drew n = regsIn w n := rfl
@[go_sem] theorem regsIn_drewN (w : World) (n k : Nat) : regsIn (w.drewN k) n = regsIn w n := rfl
@[go_sem] theorem stOk_alloc_at (w : World) (c : Array Value) (t : TypeId) (n : Nat) (hn : n = w.heap.size) (h : 26 ≤ c.size) : stOk (w.alloc (.cells c t)) n = true := stOk_row (Row.new' hn) h
@[go_sem] theorem stOk_regs (w : World) (r : Regs) (t : TypeId) (n : Nat) (hn : n = w.heap.size) : stOk (w.alloc (.cells r.cells t)) n = true := stOk_row (Row.new' hn) (by rw [Regs.size_cells]; decide)
@[go_sem] theorem stOk_alloc_past (w : World) (o : Obj) (n : Nat) (hn : n < w.heap.size) : stOk (w.alloc o) n = stOk w n := by
  unfold stOk; rw [Below.heap_alloc w o n hn]
@[go_sem] theorem stOk_drew (w : World) (n : Nat) : stOk w.drew n = stOk w n := rfl
@[go_sem] theorem stOk_drewN (w : World) (n k : Nat) : stOk (w.drewN k) n = stOk w n := rfl
@[go_sem] theorem putR_drew (w : World) (n : Nat) (r : Regs) : putR w.drew n r = (putR w n r).drew := rfl
@[go_sem] theorem putR_drewN (w : World) (n k : Nat) (r : Regs) : putR (w.drewN k) n r = (putR w n r).drewN k := rfl
@[simp, go_sem] theorem putR_size (w : World) (n : Nat) (r : Regs) : (putR w n r).heap.size = w.heap.size := by simp [putR]
theorem putR_other (w : World) (n k : Nat) (r : Regs) (h : k ≠ n) : (putR w n r).heap[k]? = w.heap[k]? := by
  simp only [putR, Array.getElem?_modify]
  rw [if_neg (fun e => h e.symm)]
theorem Row.putR {w : World} {g : Nat} {cs : Array Value} {t : TypeId} (h : Row w g cs t) (r : Regs) : Row (putR w g r) g (r.cells ++ cs.extract 26 cs.size) t := by
  show (Go.Proofs.YtcglkefaopgjeaaGreatDoor.putR w g r).heap[g]? = _
  simp only [Go.Proofs.YtcglkefaopgjeaaGreatDoor.putR, Array.getElem?_modify, if_true]
  rw [show w.heap[g]? = _ from h]
  rfl
theorem Row.putR_other {w : World} {g k : Nat} {cs : Array Value} {t : TypeId} (h : Row w g cs t) (r : Regs) (hk : g ≠ k) : Row (Go.Proofs.YtcglkefaopgjeaaGreatDoor.putR w k r) g cs t := (Go.Proofs.YtcglkefaopgjeaaGreatDoor.putR_other w k g r hk).trans h
theorem Fr.putR {own : Nat → Prop} {a w : World} (h : Fr own a w) {g : Nat} (hp : own g) (r : Regs) : Fr own a (Go.Proofs.YtcglkefaopgjeaaGreatDoor.putR w g r) :=
  h.trans ⟨rfl, rfl, rfl, by simp, fun k _ ho => Go.Proofs.YtcglkefaopgjeaaGreatDoor.putR_other w g k r (fun e => ho (e ▸ hp))⟩
theorem Below.putR {B : Nat} {a w : World} (h : Below B a w) {g : Nat} (hg : B ≤ g) (r : Regs) : Below B a (Go.Proofs.YtcglkefaopgjeaaGreatDoor.putR w g r) :=
  h.trans ⟨rfl, rfl, rfl, by simp, fun k hk => Go.Proofs.YtcglkefaopgjeaaGreatDoor.putR_other w g k r (by omega)⟩
theorem mcells_tail (C : Phys) (m : Mach) (r : Regs) : r.cells ++ (mcells C m).extract 26 31 = mcells C { m with r := r } := by
  apply Array.ext'
  rw [Array.toList_append, Array.toList_extract, List.extract_eq_take_drop]
  unfold mcells
  rw [Array.toList_append, Array.toList_append, List.drop_append_of_le_length (by rw [Array.length_toList, Regs.size_cells]; exact Nat.le_refl _)]
  rw [List.drop_of_length_le (by rw [Array.length_toList, Regs.size_cells]; exact Nat.le_refl _)]
  rfl
theorem Own.putR {w : World} {C : Phys} {lv : Value} {m : Mach} (h : Own w C lv m) (r : Regs) (hr : r.wf) : Own (Go.Proofs.YtcglkefaopgjeaaGreatDoor.putR w C.b r) C lv { m with r := r } :=
  h.setM (Fr.putR (Fr.refl (fun k => k = C.b) w) rfl r) (mcells_tail C m r ▸ Row.putR h.row r) rfl rfl rfl rfl rfl ⟨hr, h.wf.base, h.wf.size⟩
@[go_sem] theorem cell_putR (w : World) (g k j : Nat) (r : Regs) (h : k ≠ g) : (putR w g r).cell? ⟨k, j, none⟩ = w.cell? ⟨k, j, none⟩ := World.cell?_of_block (putR_other w g k r h)
@[go_sem] theorem frozen_putR (w : World) (g k j : Nat) (r : Regs) (h : k ≠ g) : (putR w g r).frozen? ⟨k, j, none⟩ = w.frozen? ⟨k, j, none⟩ := World.frozen?_of_block (putR_other w g k r h)
attribute [go_sem] run_storeRegs

theorem stOk_form {w : World} {g : Nat} (h : stOk w g = true) : ∃ c t, Row w g c t ∧ 26 ≤ c.size := by
  unfold stOk at h
  split at h
  · rename_i c e hg
    exact ⟨c, e, hg, by simpa using h⟩
  · exact absurd h (by simp)
@[go_sem] theorem regsIn_putR (w : World) (g : Nat) (r : Regs) (h : stOk w g = true) : regsIn (putR w g r) g = some r.val := by
  obtain ⟨c, t, hr, hs⟩ := stOk_form h
  rw [regsIn_row (Row.putR hr r), rowRegs, if_pos (by rw [Array.size_append, Regs.size_cells]; omega)]
  congr 2
  apply Array.ext'
  rw [Array.toList_extract, List.extract_eq_take_drop, Array.toList_append, List.drop_zero, Nat.sub_zero]
  exact List.take_left' (by rw [Array.length_toList, Regs.size_cells])
@[go_sem] theorem stOk_putR (w : World) (g : Nat) (r : Regs) (h : stOk w g = true) : stOk (putR w g r) g = true := by
  obtain ⟨c, t, hr, hs⟩ := stOk_form h
  exact stOk_row (Row.putR hr r) (by rw [Array.size_append, Regs.size_cells]; omega)
@[go_sem] theorem cell_putR_lo (w : World) (g j : Nat) (r : Regs) (h : stOk w g = true) (hj : j < 26) : (putR w g r).cell? ⟨g, j, none⟩ = r.cells[j]? := by
  obtain ⟨c, t, hr, hs⟩ := stOk_form h
  rw [(Row.putR hr r).cell, Array.getElem?_append_left (by rw [Regs.size_cells]; exact hj)]
@[go_sem] theorem cell_putR_hi (w : World) (g j : Nat) (r : Regs) (h : stOk w g = true) (hj : 26 ≤ j) : (putR w g r).cell? ⟨g, j, none⟩ = w.cell? ⟨g, j, none⟩ := by
  obtain ⟨c, t, hr, hs⟩ := stOk_form h
  rw [(Row.putR hr r).cell, hr.cell, Array.getElem?_append_right (by rw [Regs.size_cells]; exact hj), Regs.size_cells]
  by_cases hjc : j < c.size
  · rw [Array.getElem?_extract]
    simp
    rw [if_pos (by omega), show 26 + (j - 26) = j by omega]
  · rw [Array.getElem?_eq_none (by simp; omega), Array.getElem?_eq_none (by omega)]
@[go_sem] theorem frozen_putR_same (w : World) (g j : Nat) (r : Regs) (h : stOk w g = true) : (putR w g r).frozen? ⟨g, j, none⟩ = false := by
  obtain ⟨c, t, hr, hs⟩ := stOk_form h
  exact (Row.putR hr r).frozen j

/-- What a walk wants to know of a machine. -/
structure Sees (w : World) (C : Phys) (m : Mach) : Prop where
  c : ∀ j, w.cell? ⟨C.b, j, none⟩ = (mcells C m)[j]?
  f : ∀ j, w.frozen? ⟨C.b, j, none⟩ = false
  r : regsIn w C.b = some m.r.val
  s : stOk w C.b = true
  l : C.b < w.heap.size
theorem Own.sees {w : World} {C : Phys} {lv : Value} {m : Mach} (h : Own w C lv m) : Sees w C m :=
  ⟨h.row.cell, h.row.frozen, (regsIn_row h.row).trans (rowRegs_mcells C m), stOk_row h.row (by rw [msize]; decide), h.row.lt⟩
end Go.Proofs.YtcglkefaopgjeaaGreatDoor
