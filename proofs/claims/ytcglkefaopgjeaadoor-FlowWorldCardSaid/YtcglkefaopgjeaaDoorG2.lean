/- Words for the walks of the laws: boxes of registers beside a machine, classes of worlds. -/
import Derived.Test.YtcglkefaopgjeaaDoorG0
import Derived.Test.YtcglkefaopgjeaaDoorD6
import Derived.Test.YtcglkefaopgjeaaDoorG1
namespace Go.Proofs.YtcglkefaopgjeaaDoor
set_option linter.unusedSimpArgs false
set_option linter.unusedVariables false
open Go.RowKit

/-- A new block of registers that is stored into at once. -/
@[go_sem] theorem putR_alloc_at (w : World) (c : Array Value) (t : TypeId) (n : Nat) (r : Regs) (hn : n = w.heap.size) (hc : c.size = 26) : putR (w.alloc (.cells c t)) n r = w.alloc (.cells r.cells t) := by
  subst hn
  have e : r.cells ++ c.extract 26 c.size = r.cells := by rw [hc]; simp [Array.extract_empty_of_size_le_start, hc]
  unfold putR World.alloc
  congr 1
  apply Array.ext
  · simp
  · intro k h1 h2
    simp only [Array.getElem_modify, Array.getElem_push]
    by_cases hk : k < w.heap.size
    · have : ¬ w.heap.size = k := by omega
      simp [hk, this]
    · have : w.heap.size = k := by simp at h1; omega
      subst this
      simp [e]

theorem fresh_box {w w1 : World} {C : Phys} {lv : Value} (hb : Below w.heap.size w w1) (hn : ∀ k, k < w.heap.size → ¬ C.own lv k) {k : Nat} {cs : Array Value} {t : TypeId} (hr : Row w k cs t) : Box C lv w1 k cs t :=
  ⟨Below.row hb hr hr.lt, hn k hr.lt⟩

/-- What a walk wants to know of a box of registers. -/
structure SeesR (w : World) (k : Nat) (r : Regs) : Prop where
  c : ∀ j, w.cell? ⟨k, j, none⟩ = r.cells[j]?
  f : ∀ j, w.frozen? ⟨k, j, none⟩ = false
  r : regsIn w k = some r.val
  s : stOk w k = true
  l : k < w.heap.size
theorem Row.sees {w : World} {k : Nat} {r : Regs} {t : TypeId} (h : Row w k r.cells t) : SeesR w k r :=
  ⟨h.cell, h.frozen, (regsIn_row h).trans (rowRegs_regs r), stOk_row h (by rw [Regs.size_cells]; decide), h.lt⟩
theorem Row.putRegs {w : World} {k : Nat} {r : Regs} {t : TypeId} (h : Row w k r.cells t) (r2 : Regs) : Row (Go.Proofs.YtcglkefaopgjeaaDoor.putR w k r2) k r2.cells t := by
  have := Row.putR h r2
  rwa [show r2.cells ++ r.cells.extract 26 r.cells.size = r2.cells from by rw [Regs.size_cells]; simp [Array.extract_empty_of_size_le_start, Regs.size_cells]] at this
theorem Box.put {w : World} {C : Phys} {lv : Value} {k : Nat} {r : Regs} {t : TypeId} (h : Box C lv w k r.cells t) (r2 : Regs) : Box C lv (putR w k r2) k r2.cells t := ⟨h.row.putRegs r2, h.no⟩
theorem Box.put_other {w : World} {C : Phys} {lv : Value} {k g : Nat} {cs : Array Value} {t : TypeId} (h : Box C lv w k cs t) (r2 : Regs) (hk : k ≠ g) : Box C lv (putR w g r2) k cs t := ⟨h.row.putR_other r2 hk, h.no⟩
theorem Box.set_other {w : World} {C : Phys} {lv : Value} {k : Nat} {cs : Array Value} {t : TypeId} (h : Box C lv w k cs t) (p : Addr) (v : Value) (hk : k ≠ p.block) : Box C lv (w.setCell p v) k cs t := ⟨h.row.setCell_other p v hk, h.no⟩
theorem Box.set {w : World} {C : Phys} {lv : Value} {k : Nat} {cs : Array Value} {t : TypeId} (h : Box C lv w k cs t) (i : Nat) (v : Value) : Box C lv (w.setCell ⟨k, i, none⟩ v) k (cs.setIfInBounds i v) t := ⟨h.row.setCell i v, h.no⟩
theorem Own.put_other {w : World} {C : Phys} {lv : Value} {m : Mach} (h : Own w C lv m) {g : Nat} (hg : C.b ≠ g ∧ C.mb ≠ g ∧ C.bb ≠ g ∧ C.tb ≠ g ∧ C.wb ≠ g ∧ (∀ k, C.ra = some k → k ≠ g) ∧ (∀ k, lv.ownBlock = some k → k ≠ g)) (r2 : Regs) : Own (Go.Proofs.YtcglkefaopgjeaaDoor.putR w g r2) C lv m :=
  h.kept (own := fun k => k = g) (Fr.putR (Fr.refl (fun k => k = g) w) rfl r2) hg.1 hg.2.1 hg.2.2.1 hg.2.2.2.1 hg.2.2.2.2.1 (fun k hk => hg.2.2.2.2.2.1 k hk) (fun k hk => hg.2.2.2.2.2.2 k hk)

theorem Own.setFresh {w w0 : World} {C : Phys} {lv : Value} {m m0 : Mach} (h : Own w C lv m) (h0 : Own w0 C lv m0) {p : Addr} (hg : w0.heap.size ≤ p.block) (v : Value) : Own (w.setCell p v) C lv m := by
  have no := h0.fresh hg
  refine h.kept (own := fun k => k = p.block) ((Fr.refl (fun k => k = p.block) w).setCell (p := p) rfl v) (fun e => no (Or.inl e.symm)) (fun e => ?_) (fun e => no (Or.inr (Or.inl e.symm))) (fun e => no (Or.inr (Or.inr (Or.inl e.symm)))) (fun e => no (Or.inr (Or.inr (Or.inr (Or.inl e.symm))))) (fun k hk e => ?_) (fun k hk e => no (Or.inr (Or.inr (Or.inr (Or.inr (e ▸ hk))))))
  · have := h0.mem.r.lt; have : C.mb = p.block := e; omega
  · have := (h0.wor.repB k hk).1; have := h0.lt; have : k = p.block := e; have : C.base ≤ w0.heap.size := h0.lt; have : k < C.base := (h0.wor.repB k hk).1; omega
theorem below_past {w W : World} {o : Obj} (h : Below (w.alloc o).heap.size (w.alloc o) W) : Below w.heap.size w W :=
  ((Below.refl w.heap.size w).alloc (Nat.le_refl _) o).trans (h.mono (by simp))
theorem below_step {w w1 w2 : World} {own : Nat → Prop} (h : Below w.heap.size w w1) (f : Fr own w1 w2) (hn : ∀ k, k < w.heap.size → ¬ own k) : Below w.heap.size w w2 :=
  ⟨f.os.trans h.os, f.tape.trans h.tape, f.output.trans h.output, Nat.le_trans h.size f.size, fun k hk => (f.block k (Nat.lt_of_lt_of_le hk h.size) (hn k hk)).trans (h.block k hk)⟩

end Go.Proofs.YtcglkefaopgjeaaDoor
