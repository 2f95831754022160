/- The contracts of package world. -/
import Derived.Test.YtcglkefaopgjeaaGreatDoorB4
import Derived.Deep.AppendLies
import Derived.Deep.RegionLaw
namespace Go.Proofs.YtcglkefaopgjeaaGreatDoor
set_option linter.unusedSimpArgs false
set_option linter.unusedVariables false
open Go.RowKit

structure Ev where
  kind : Int
  n : Int
  v : Int
  a : Int
  b : Int
  c : Int
  d : Int
  deriving DecidableEq

abbrev Ev.cells (e : Ev) : List Value := [.int .i64 e.kind, .int .u16 e.n, .int .u16 e.v, .int .u16 e.a, .int .u16 e.b, .int .u16 e.c, .int .u16 e.d]
abbrev Ev.val (e : Ev) : Value := .agg #[.int .i64 e.kind, .int .u16 e.n, .int .u16 e.v, .int .u16 e.a, .int .u16 e.b, .int .u16 e.c, .int .u16 e.d]
def evCells (l : List Ev) : List Value := l.flatMap Ev.cells
theorem evCells_snoc (l : List Ev) (e : Ev) : evCells (l ++ [e]) = evCells l ++ e.cells := by simp [evCells]

/-- Where a world lies. -/
structure WPhys where
  wb : Nat
  base : Nat
  ra : Option Nat
  rcap : Nat
  lv : Value

def lenOf : Value → Nat | .slice _ n _ => n | _ => 0
def WPhys.rep (p : WPhys) (n : Nat) : Value := .slice (p.ra.map fun g => ⟨g, 0, none⟩) n p.rcap
def WPhys.own (p : WPhys) : Nat → Prop := fun k => k = p.wb ∨ p.lv.ownBlock = some k

structure WorldAt (w : World) (p : WPhys) (rs : List Int) (n : Nat) (l : List Ev) : Prop where
  row : Row w p.wb #[p.rep rs.length, .int .i64 n, p.lv] 133
  rep : ∀ j, j < rs.length → ∃ g, p.ra = some g ∧ w.cell? ⟨g, j, none⟩ = some (.int .u16 (rs.getD j 0))
  repB : ∀ g, p.ra = some g → g < p.base ∧ g ≠ p.wb
  ev : w.ownsRow p.base 67 7 p.lv l.length (evCells l)
  wbB : p.wb < p.base
  baseB : p.base ≤ w.heap.size
  le : n ≤ rs.length
  most : l.length ≤ 4000
  big : rs.length ≤ 140737488351232

theorem WorldAt.c0 {w : World} {p : WPhys} {rs : List Int} {n : Nat} {ev : List Ev} (h : WorldAt w p rs n ev) : w.cell? ⟨p.wb, 0, none⟩ = some (p.rep rs.length) := h.row.cell 0
theorem WorldAt.c1 {w : World} {p : WPhys} {rs : List Int} {n : Nat} {ev : List Ev} (h : WorldAt w p rs n ev) : w.cell? ⟨p.wb, 1, none⟩ = some (.int .i64 n) := h.row.cell 1
theorem WorldAt.c2 {w : World} {p : WPhys} {rs : List Int} {n : Nat} {ev : List Ev} (h : WorldAt w p rs n ev) : w.cell? ⟨p.wb, 2, none⟩ = some p.lv := h.row.cell 2

theorem grown_of_fr {w w' : World} {own : Nat → Prop} {row : Option Nat} (h : Fr own w w') (ho : ∀ k, own k → row = some k) : w.grownBy w' row :=
  ⟨h.os, h.tape, h.output, h.size, fun k hk hn => h.block k hk (fun e => hn (ho k e).symm)⟩

/-- What turns no block of a world's keeps it. -/
theorem WorldAt.kept {w w' : World} {p : WPhys} {rs : List Int} {n : Nat} {ev : List Ev} (h : WorldAt w p rs n ev) {own : Nat → Prop} (hf : Fr own w w')
    (h1 : ¬ own p.wb) (h2 : ∀ g, p.ra = some g → ¬ own g) (h3 : ∀ g, p.lv.ownBlock = some g → ¬ own g) : WorldAt w' p rs n ev := by
  refine ⟨hf.row h.row h1, ?_, h.repB, ?_, h.wbB, Nat.le_trans h.baseB hf.size, h.le, h.most, h.big⟩
  · intro j hj
    obtain ⟨g, hg, hc⟩ := h.rep j hj
    refine ⟨g, hg, ?_⟩
    rw [← hc]
    exact World.cell?_of_block (hf.block g (World.block_lt_of_cell? w _ hc) (h2 g hg))
  · obtain ⟨e1, e2⟩ := h.ev
    refine ⟨e1, e2.imp id ?_⟩
    rintro ⟨g, cap, cur, hv, hg, hh, r⟩
    exact ⟨g, cap, cur, hv, hg, (hf.block g (Array.getElem?_eq_some_iff.1 hh).1 (h3 g (by rw [hv]; rfl))).trans hh, r⟩
theorem WorldAt.below {w w' : World} {p : WPhys} {rs : List Int} {n : Nat} {ev : List Ev} (h : WorldAt w p rs n ev) (hb : Below w.heap.size w w') : WorldAt w' p rs n ev :=
  h.kept (own := fun _ => False) (Fr.of_below hb) id (fun _ _ => id) (fun _ _ => id)

theorem WorldAt.advance {w : World} {p : WPhys} {rs : List Int} {n : Nat} {l : List Ev} (h : WorldAt w p rs n l) (hn : n < rs.length) : WorldAt (w.setCell ⟨p.wb, 1, none⟩ (.int .i64 ((n : Int) + 1))) p rs (n + 1) l := by
  refine ⟨h.row.setCell 1 _, ?_, h.repB, ?_, h.wbB, by simpa using h.baseB, hn, h.most, h.big⟩
  · intro j hj
    obtain ⟨g, hg, hc⟩ := h.rep j hj
    refine ⟨g, hg, ?_⟩
    rw [← hc]
    exact World.cell?_of_block (heap_setCell_other w _ g _ (h.repB g hg).2)
  · exact ownsRow_setCell_below h.ev h.wbB _

set_option maxHeartbeats 800000 in
theorem next_no (w : World) (p : WPhys) (rs : List Int) (n : Nat) (ev : List Ev) (h : WorldAt w p rs n ev) (hn : rs.length ≤ n) :
    Calls Tryz.prog 203 #[.pointer (some ⟨p.wb, 0, none⟩)] w fun e w' => e = .returned (.int .u16 0) ∧ Below w.heap.size w w' := by
  have c0 := h.c0
  have c1 := h.c1
  have h1 : (rs.length : Int) ≤ (n : Int) := by omega
  unfold WPhys.rep at c0
  clear h
  go_enter Tryz.func203, Tryz.ntmps203
  go_wp2_with fail
  go_quiet (fail)
  go_wp2_with fail
  go_ret
  exact ⟨rfl, (by (repeat (first | exact Below.refl _ _ | assumption | refine Below.setCell ?_ (by simp) _ | refine Below.alloc ?_ (by simp <;> omega) _ | refine Below.drew ?_ | refine Below.drewN ?_ | refine Below.setRow ?_ (by simp <;> omega) _)))⟩

set_option maxHeartbeats 800000 in
theorem next_yes (w : World) (p : WPhys) (rs : List Int) (n : Nat) (ev : List Ev) (h : WorldAt w p rs n ev) (hn : n < rs.length) :
    Calls Tryz.prog 203 #[.pointer (some ⟨p.wb, 0, none⟩)] w fun e w' => e = .returned (.int .u16 (rs.getD n 0)) ∧ WorldAt w' p rs (n + 1) ev ∧ Fr p.own w w' := by
  obtain ⟨g, hg, hc⟩ := h.rep n hn
  have c0 := h.c0
  have c1 := h.c1
  have hb := h.big
  have f1 := h.row.frozen 1
  have h1 : (n : Int) < (rs.length : Int) := by omega
  have h2 : ((rs.length : Nat) : Int) ≤ 140737488351232 := by omega
  unfold WPhys.rep at c0
  rw [hg] at c0
  simp only [Option.map_some] at c0
  have gne := (h.repB g hg).2
  have H := Lib.hid h
  have HG := Lib.hid hg
  have HN := Lib.hid hn
  clear h hg hn hb
  go_enter Tryz.func203, Tryz.ntmps203
  go_wp2_with fail
  go_quiet (fail)
  go_wp2_with fail
  go_quiet (fail)
  go_wp2_with fail
  go_ret
  exact ⟨rfl, ((H.out.kept (w' := w.drewN _) (own := fun _ => False) (Fr.drewN (Fr.refl _ _)) id (fun _ _ => id) (fun _ _ => id)).advance HN.out).kept (own := fun _ => False) (Fr.drewN (Fr.refl _ _)) id (fun _ _ => id) (fun _ _ => id), by (repeat (first | exact Fr.refl _ _ | assumption | refine Fr.alloc ?_ _ | refine Fr.drew ?_ | refine Fr.drewN ?_ | refine Fr.setCell ?_ (by first | exact Or.inl rfl | exact Or.inr rfl | rfl | assumption) _ | refine Fr.setRow ?_ (by first | exact Or.inl rfl | exact Or.inr rfl | rfl | assumption) _))⟩

/-- What becomes of a world: more events. -/
def WPost (p : WPhys) (w : World) (rs : List Int) (n : Nat) (l : List Ev) (w' : World) : Prop :=
  ∃ lv', WorldAt w' { p with lv := lv' } rs n l ∧ Fr p.own w w' ∧ (∀ k, lv'.ownBlock = some k → p.lv.ownBlock = some k ∨ w.heap.size ≤ k)

def noteL (l : List Ev) (e : Ev) : List Ev := if l.length < 4000 then l ++ [e] else l

theorem info_ev : (Tryz.prog.info? 67).map (fun i => (i.zero, i.size, i.bytes)) = some (some (.agg #[.int .i64 0, .int .u16 0, .int .u16 0, .int .u16 0, .int .u16 0, .int .u16 0, .int .u16 0]), 7, 24) := by kernel_rfl

/-- What an append of an event and the store of the slice leave. -/
theorem WorldAt.noted {w w1 w2 : World} {p : WPhys} {rs : List Int} {n : Nat} {l : List Ev} {e : Ev} {lv' : Value} (h : WorldAt w p rs n l) (hl : l.length < 4000)
    (hb : Below w.heap.size w w1) (hg : w1.grownBy w2 p.lv.ownBlock) (hown : w2.ownsRow p.base 67 7 lv' (l.length + 1) (evCells l ++ e.cells))
    (hn : ∀ k, lv'.ownBlock = some k → p.lv.ownBlock = some k ∨ w.heap.size ≤ k) : WPost p w rs n (l ++ [e]) (w2.setCell ⟨p.wb, 2, none⟩ lv') := by
  have hlt : ∀ k, p.lv.ownBlock = some k → p.base ≤ k := fun k hk => (h.ev.lt k hk).1
  have hkeep : ∀ k, k < w.heap.size → p.lv.ownBlock ≠ some k → w2.heap[k]? = w.heap[k]? := fun k hk hne => (hg.block k (Nat.lt_of_lt_of_le hk hb.size) (fun e => hne e.symm)).trans (hb.block k hk)
  have hwne : p.lv.ownBlock ≠ some p.wb := fun e => by have := hlt _ e; have := h.wbB; omega
  have hsz : w.heap.size ≤ w2.heap.size := Nat.le_trans hb.size hg.size
  refine ⟨lv', ⟨?_, ?_, h.repB, ?_, h.wbB, by simpa using Nat.le_trans h.baseB hsz, h.le, by simp; omega, h.big⟩, ?_, hn⟩
  · have r : Row w2 p.wb _ _ := (hkeep p.wb h.row.lt hwne).trans h.row
    exact r.setCell 2 _
  · intro j hj
    obtain ⟨g, hgr, hc⟩ := h.rep j hj
    refine ⟨g, hgr, ?_⟩
    have hgb := h.repB g hgr
    rw [← hc]
    refine World.cell?_of_block ((heap_setCell_other w2 _ g _ hgb.2).trans (hkeep g (World.block_lt_of_cell? w _ hc) (fun e => ?_)))
    have := hlt _ e
    omega
  · rw [evCells_snoc, List.length_append]
    exact ownsRow_setCell_below hown h.wbB _
  · refine ⟨?_, ?_, ?_, by simpa using hsz, ?_⟩
    · exact (hg.os.trans hb.os)
    · exact (hg.tape.trans hb.tape)
    · exact (hg.output.trans hb.output)
    · intro k hk ho
      rw [heap_setCell_other w2 _ k _ (fun e => ho (Or.inl e))]
      exact hkeep k hk (fun e => ho (Or.inr e))
theorem grown_row {w w' : World} {row : Option Nat} {g : Nat} {cs : Array Value} {t : TypeId} (hg : w.grownBy w' row) (hr : Row w g cs t) (hne : some g ≠ row) : Row w' g cs t := (hg.block g hr.lt hne).trans hr
theorem wpost_drew {p : WPhys} {w : World} {rs : List Int} {n : Nat} {l : List Ev} {w' : World} (h : WPost p w rs n l w') : WPost p w rs n l w'.drew := by
  obtain ⟨lv', h1, h2, h3⟩ := h
  exact ⟨lv', h1.kept (own := fun _ => False) (Fr.refl _ _).drew id (fun _ _ => id) (fun _ _ => id), h2.drew, h3⟩

set_option maxRecDepth 100000 in
set_option maxHeartbeats 1600000 in
theorem note_any (w : World) (p : WPhys) (rs : List Int) (n : Nat) (l : List Ev) (h : WorldAt w p rs n l) (e : Ev) (hl : l.length < 4000) :
    Calls Tryz.prog 82 #[.pointer (some ⟨p.wb, 0, none⟩), e.val] w fun r w' => r = .returned (.tuple #[]) ∧ WPost p w rs n (l ++ [e]) w' := by
  obtain ⟨i0, hi0, hz0, hz1, hz2⟩ := info_parts info_ev
  have c2 := h.c2
  have f2 := h.row.frozen 2
  have lt := h.row.lt
  have hbs := h.baseB
  have hwb := h.wbB
  obtain ⟨wb, base, ra, rcap, lv⟩ := p
  have hll : ((l.length : Nat) : Int) < 4000 := by omega
  have hown := Lib.hid h.ev
  have hlv : lv = .slice none 0 0 ∧ l.length = 0 ∨ ∃ g cap, lv = .slice (some ⟨g, 0, none⟩) l.length cap ∧ base ≤ g := by
    obtain ⟨_, h2 | ⟨g, cap, cur, hv, hg, _⟩⟩ := h.ev
    · exact Or.inl h2
    · exact Or.inr ⟨g, cap, hv, hg⟩
  have H := Lib.hid h
  clear h
  have HR := Lib.hid H.out.row
  rcases hlv with ⟨rfl, h0⟩ | ⟨g, cap, rfl, hg⟩
  · have hl0 : l = [] := List.eq_nil_of_length_eq_zero h0
    subst hl0
    clear h0
    go_enter Tryz.func82, Tryz.ntmps82
    go_wp2_with fail
    go_region_law ((refine step_append_lies _ (by rfl) _ _ _ (by rfl) base 67 i0 _ 7 24 Tryz.underlying64 hi0 hz0 hz1 hz2 rfl (by omega) _ _ _ (by rfl) (((hown.out.alloc _).alloc _).drew) ⟨w.heap.size + 1, 0, none⟩ 1 1 e.cells (by rfl) (by rfl) (World.news_of_block (cs := e.cells.toArray) (t := 67) (fr := (0, 0)) (heap_alloc2_new w _ _)) (by simp [Value.oneCell']) (by omega) (by unfold maxLen; omega) (by omega) (by simp; omega) (w.heap.size + 1 + 1) (by simp) ?_; intro gg cap' w1 hown1 hgrow hat hlt; have r1 := grown_row hgrow (((HR.out.alloc _).alloc _).drew) (by simp [Value.ownBlock]; try omega); have x1 := r1.cell 2; have x2 := r1.frozen 2; simp only [List.getElem?_toArray, List.getElem?_cons_succ, List.getElem?_cons_zero] at x1; clear r1))
    all_goals go_wp2_with fail
    all_goals
      go_end0
      refine ⟨rfl, WorldAt.noted H.out hl (by (repeat (first | exact Below.refl _ _ | assumption | refine Below.setCell ?_ (by simp) _ | refine Below.alloc ?_ (by simp <;> omega) _ | refine Below.drew ?_ | refine Below.drewN ?_ | refine Below.setRow ?_ (by simp <;> omega) _))) hgrow hown1 ?_⟩
      intro k hk
      simp only [Value.ownBlock, Option.some.injEq, reduceCtorEq, false_or] at hk hat ⊢
      omega
  · go_enter Tryz.func82, Tryz.ntmps82
    go_wp2_with fail
    go_region_law ((refine step_append_lies _ (by rfl) _ _ _ (by rfl) base 67 i0 _ 7 24 Tryz.underlying64 hi0 hz0 hz1 hz2 rfl (by omega) _ _ _ (by rfl) (((hown.out.alloc _).alloc _).drew) ⟨w.heap.size + 1, 0, none⟩ 1 1 e.cells (by rfl) (by rfl) (World.news_of_block (cs := e.cells.toArray) (t := 67) (fr := (0, 0)) (heap_alloc2_new w _ _)) (by simp [Value.oneCell']) (by omega) (by unfold maxLen; omega) (by omega) (by simp; omega) (w.heap.size + 1 + 1) (by simp) ?_; intro gg cap' w1 hown1 hgrow hat hlt; have r1 := grown_row hgrow (((HR.out.alloc _).alloc _).drew) (by simp [Value.ownBlock]; try omega); have x1 := r1.cell 2; have x2 := r1.frozen 2; simp only [List.getElem?_toArray, List.getElem?_cons_succ, List.getElem?_cons_zero] at x1; clear r1))
    all_goals go_wp2_with fail
    all_goals
      go_end0
      refine ⟨rfl, WorldAt.noted H.out hl (by (repeat (first | exact Below.refl _ _ | assumption | refine Below.setCell ?_ (by simp) _ | refine Below.alloc ?_ (by simp <;> omega) _ | refine Below.drew ?_ | refine Below.drewN ?_ | refine Below.setRow ?_ (by simp <;> omega) _))) hgrow hown1 ?_⟩
      intro k hk
      simp only [Value.ownBlock, Option.some.injEq, reduceCtorEq, false_or] at hk hat ⊢
      omega
end Go.Proofs.YtcglkefaopgjeaaGreatDoor
