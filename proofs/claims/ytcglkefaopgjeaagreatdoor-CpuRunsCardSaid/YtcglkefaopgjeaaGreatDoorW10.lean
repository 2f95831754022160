/- Parts of the proof, in one text: YtcglkefaopgjeaaGreatDoorG1 YtcglkefaopgjeaaGreatDoorL1 YtcglkefaopgjeaaGreatDoorL2 YtcglkefaopgjeaaGreatDoorL3. Each part's own remark says what it proves; conditions: those of each theorem. -/
import Derived.Test.YtcglkefaopgjeaaGreatDoorW0
import Derived.Test.YtcglkefaopgjeaaGreatDoorW9
import Derived.Laws.StructEq

/- Two register files compared. -/
namespace Go.Proofs.YtcglkefaopgjeaaGreatDoor
set_option linter.unusedSimpArgs false
set_option linter.unusedVariables false
open Go.RowKit

/-- A word with its mark equals itself. -/
theorem eq_V (d : Nat) (a : Int) (b : Bool) (w : World) : (Op.equalIn (d + 1 + 1) 24 (.agg #[.int .u16 a, .bool b]) (.agg #[.int .u16 a, .bool b])).run Tryz.prog w = .ok true w := by
  have hS : Tryz.prog.underlying 24 = some (.struct (Tryz.prog.fieldsOf 24)) := by kernel_rfl
  rw [run_equalIn_agg w (d + 1) 24 _ _ hS (by kernel_rfl)]
  simp only [Program.fieldsOf, Tryz.underlying24]
  go_simp
set_option maxRecDepth 100000 in
theorem eq_A8 (d : Nat) (a0 a1 a2 a3 a4 a5 a6 a7 : Int) (b0 b1 b2 b3 b4 b5 b6 b7 : Bool) (w : World) : (Op.equalIn (d + 1 + 1 + 1) 25 (.agg #[.int .u16 a0, .bool b0, .int .u16 a1, .bool b1, .int .u16 a2, .bool b2, .int .u16 a3, .bool b3, .int .u16 a4, .bool b4, .int .u16 a5, .bool b5, .int .u16 a6, .bool b6, .int .u16 a7, .bool b7]) (.agg #[.int .u16 a0, .bool b0, .int .u16 a1, .bool b1, .int .u16 a2, .bool b2, .int .u16 a3, .bool b3, .int .u16 a4, .bool b4, .int .u16 a5, .bool b5, .int .u16 a6, .bool b6, .int .u16 a7, .bool b7])).run Tryz.prog w = .ok true w := by
  rw [Op.equalIn]
  simp only [Sem.run_bind, run_underlying Tryz.underlying25, Result.andThen_ok]
  simp only [Std.Legacy.Range.forIn_eq_forIn_range', Std.Legacy.Range.size, Nat.sub_zero, Nat.add_sub_cancel, Nat.div_one, List.range'_succ, List.range'_zero, List.forIn_cons, List.forIn_nil]
  have hv := fun a b => eq_V d a b w
  go_simp
set_option maxRecDepth 100000 in
theorem eq_A4 (d : Nat) (a0 a1 a2 a3 : Int) (b0 b1 b2 b3 : Bool) (w : World) : (Op.equalIn (d + 1 + 1 + 1) 26 (.agg #[.int .u16 a0, .bool b0, .int .u16 a1, .bool b1, .int .u16 a2, .bool b2, .int .u16 a3, .bool b3]) (.agg #[.int .u16 a0, .bool b0, .int .u16 a1, .bool b1, .int .u16 a2, .bool b2, .int .u16 a3, .bool b3])).run Tryz.prog w = .ok true w := by
  rw [Op.equalIn]
  simp only [Sem.run_bind, run_underlying Tryz.underlying26, Result.andThen_ok]
  simp only [Std.Legacy.Range.forIn_eq_forIn_range', Std.Legacy.Range.size, Nat.sub_zero, Nat.add_sub_cancel, Nat.div_one, List.range'_succ, List.range'_zero, List.forIn_cons, List.forIn_nil]
  have hv := fun a b => eq_V d a b w
  go_simp
theorem eq_regs (r : Regs) (w : World) : (Op.equalIn 10000 28 r.val r.val).run Tryz.prog w = .ok true w := by
  have hS : Tryz.prog.underlying 28 = some (.struct (Tryz.prog.fieldsOf 28)) := by kernel_rfl
  rw [show (10000 : Nat) = 9999 + 1 from rfl, run_equalIn_agg w 9999 28 _ _ hS (by kernel_rfl)]
  simp only [Program.fieldsOf, Tryz.underlying28]
  have h8 := eq_A8 9996 r.g0.v r.g1.v r.g2.v r.g3.v r.g4.v r.g5.v r.g6.v r.g7.v r.g0.t r.g1.t r.g2.t r.g3.t r.g4.t r.g5.t r.g6.t r.g7.t w
  have h4 := eq_A4 9996 r.s0.v r.s1.v r.s2.v r.s3.v r.s0.t r.s1.t r.s2.t r.s3.t w
  unfold Regs.cells
  go_simp
end Go.Proofs.YtcglkefaopgjeaaGreatDoor

/- Words for the walks of the Cpu laws: boxes of registers beside a machine; steps. -/
namespace Go.Proofs.YtcglkefaopgjeaaGreatDoor
set_option linter.unusedSimpArgs false
set_option linter.unusedVariables false
open Go.RowKit

/-- A new block of registers that is stored into at once. -/
@[go_sem] theorem putR_alloc_at (w : World) (c : Array Value) (t : TypeId) (n : Nat) (r : Regs) (hn : n = w.heap.size) (hc : c.size = 26) : putR (w.alloc (.cells c t)) n r = w.alloc (.cells r.cells t) := by
  subst hn
  have e : r.cells ++ c.extract 26 c.size = r.cells := by rw [hc]; simp [Array.extract_empty_of_size_le_start, hc]
  unfold putR World.alloc
  congr 1
  apply Array.ext
  · simp
  · intro k h1 h2
    simp only [Array.getElem_modify, Array.getElem_push]
    by_cases hk : k < w.heap.size
    · have : ¬ w.heap.size = k := by omega
      simp [hk, this]
    · have : w.heap.size = k := by simp at h1; omega
      subst this
      simp [e]

theorem fresh_box {w w1 : World} {C : Phys} {lv : Value} (hb : Below w.heap.size w w1) (hn : ∀ k, k < w.heap.size → ¬ C.own lv k) {k : Nat} {cs : Array Value} {t : TypeId} (hr : Row w k cs t) : Box C lv w1 k cs t :=
  ⟨Below.row hb hr hr.lt, hn k hr.lt⟩

/-- What a walk wants to know of a box of registers. -/
structure SeesR (w : World) (k : Nat) (r : Regs) : Prop where
  c : ∀ j, w.cell? ⟨k, j, none⟩ = r.cells[j]?
  f : ∀ j, w.frozen? ⟨k, j, none⟩ = false
  r : regsIn w k = some r.val
  s : stOk w k = true
  l : k < w.heap.size
theorem Row.sees {w : World} {k : Nat} {r : Regs} {t : TypeId} (h : Row w k r.cells t) : SeesR w k r :=
  ⟨h.cell, h.frozen, (regsIn_row h).trans (rowRegs_regs r), stOk_row h (by rw [Regs.size_cells]; decide), h.lt⟩
theorem Row.putRegs {w : World} {k : Nat} {r : Regs} {t : TypeId} (h : Row w k r.cells t) (r2 : Regs) : Row (Go.Proofs.YtcglkefaopgjeaaGreatDoor.putR w k r2) k r2.cells t := by
  have := Row.putR h r2
  rwa [show r2.cells ++ r.cells.extract 26 r.cells.size = r2.cells from by rw [Regs.size_cells]; simp [Array.extract_empty_of_size_le_start, Regs.size_cells]] at this
theorem Box.put {w : World} {C : Phys} {lv : Value} {k : Nat} {r : Regs} {t : TypeId} (h : Box C lv w k r.cells t) (r2 : Regs) : Box C lv (putR w k r2) k r2.cells t := ⟨h.row.putRegs r2, h.no⟩
theorem Box.put_other {w : World} {C : Phys} {lv : Value} {k g : Nat} {cs : Array Value} {t : TypeId} (h : Box C lv w k cs t) (r2 : Regs) (hk : k ≠ g) : Box C lv (putR w g r2) k cs t := ⟨h.row.putR_other r2 hk, h.no⟩
theorem Box.set_other {w : World} {C : Phys} {lv : Value} {k : Nat} {cs : Array Value} {t : TypeId} (h : Box C lv w k cs t) (p : Addr) (v : Value) (hk : k ≠ p.block) : Box C lv (w.setCell p v) k cs t := ⟨h.row.setCell_other p v hk, h.no⟩
theorem Box.set {w : World} {C : Phys} {lv : Value} {k : Nat} {cs : Array Value} {t : TypeId} (h : Box C lv w k cs t) (i : Nat) (v : Value) : Box C lv (w.setCell ⟨k, i, none⟩ v) k (cs.setIfInBounds i v) t := ⟨h.row.setCell i v, h.no⟩
theorem Own.put_other {w : World} {C : Phys} {lv : Value} {m : Mach} (h : Own w C lv m) {g : Nat} (hg : C.b ≠ g ∧ C.mb ≠ g ∧ C.bb ≠ g ∧ C.tb ≠ g ∧ C.wb ≠ g ∧ (∀ k, C.ra = some k → k ≠ g) ∧ (∀ k, lv.ownBlock = some k → k ≠ g)) (r2 : Regs) : Own (Go.Proofs.YtcglkefaopgjeaaGreatDoor.putR w g r2) C lv m :=
  h.kept (own := fun k => k = g) (Fr.putR (Fr.refl (fun k => k = g) w) rfl r2) hg.1 hg.2.1 hg.2.2.1 hg.2.2.2.1 hg.2.2.2.2.1 (fun k hk => hg.2.2.2.2.2.1 k hk) (fun k hk => hg.2.2.2.2.2.2 k hk)

theorem Own.setFresh {w w0 : World} {C : Phys} {lv : Value} {m m0 : Mach} (h : Own w C lv m) (h0 : Own w0 C lv m0) {p : Addr} (hg : w0.heap.size ≤ p.block) (v : Value) : Own (w.setCell p v) C lv m := by
  have no := h0.fresh hg
  refine h.kept (own := fun k => k = p.block) ((Fr.refl (fun k => k = p.block) w).setCell (p := p) rfl v) (fun e => no (Or.inl e.symm)) (fun e => ?_) (fun e => no (Or.inr (Or.inl e.symm))) (fun e => no (Or.inr (Or.inr (Or.inl e.symm)))) (fun e => no (Or.inr (Or.inr (Or.inr (Or.inl e.symm))))) (fun k hk e => ?_) (fun k hk e => no (Or.inr (Or.inr (Or.inr (Or.inr (e ▸ hk))))))
  · have := h0.mem.r.lt; have : C.mb = p.block := e; omega
  · have := (h0.wor.repB k hk).1; have := h0.lt; have : k = p.block := e; have : C.base ≤ w0.heap.size := h0.lt; have : k < C.base := (h0.wor.repB k hk).1; omega
theorem below_past {w W : World} {o : Obj} (h : Below (w.alloc o).heap.size (w.alloc o) W) : Below w.heap.size w W :=
  ((Below.refl w.heap.size w).alloc (Nat.le_refl _) o).trans (h.mono (by simp))
theorem below_step {w w1 w2 : World} {own : Nat → Prop} (h : Below w.heap.size w w1) (f : Fr own w1 w2) (hn : ∀ k, k < w.heap.size → ¬ own k) : Below w.heap.size w w2 :=
  ⟨f.os.trans h.os, f.tape.trans h.tape, f.output.trans h.output, Nat.le_trans h.size f.size, fun k hk => (f.block k (Nat.lt_of_lt_of_le hk h.size) (hn k hk)).trans (h.block k hk)⟩

end Go.Proofs.YtcglkefaopgjeaaGreatDoor

/- Steps of instructions that stand alone in what begin makes; awake. -/
namespace Go.Proofs.YtcglkefaopgjeaaGreatDoor
set_option linter.unusedSimpArgs false
set_option linter.unusedVariables false
open Go.RowKit

theorem sane_begun (r : Regs) (bs : List Int) : Sane (begun r bs) := ⟨rfl, rfl, rfl, rfl, rfl⟩
theorem code_begun (r : Regs) (h0 : 0 ≤ r.ip) (h1 : r.ip ≤ 65535) (bs : List Int) (k : Nat) (hk : k < 65536) : (begun r bs).code k = bs.getD k 0 := by
  have hl := lin256 (IntKind.u16.wrap (r.ip + k)) (wrap16_lo _) (wrap16_hi _)
  show codeMem r.ip bs (lin 256 (IntKind.u16.wrap (r.ip + k))) = _
  rw [IntKind.wrap_u16] at hl ⊢
  unfold codeMem
  rw [if_pos (by omega), show ((((lin 256 ((r.ip + k) % 65536) : Nat) : Int) - 4096 - r.ip) % 65536).toNat = k by omega]
theorem codeIs_begun (r : Regs) (h0 : 0 ≤ r.ip) (h1 : r.ip ≤ 65535) (bs : List Int) (hl : bs.length ≤ 64) : CodeIs (begun r bs) bs := fun k hk => code_begun r h0 h1 bs k (by omega)
theorem opI_wf (op : Int) (h0 : 0 ≤ op) (h1 : op ≤ 255) (imm : Int) (i0 : 0 ≤ imm) (i1 : imm ≤ 65535) : Inst.wf { opI op false 0 0 with imm := imm } :=
  ⟨⟨h0, h1⟩, ⟨by show (0 : Int) ≤ 0; omega, by show (0 : Int) ≤ 3; omega⟩, ⟨by show (0 : Int) ≤ 0; omega, by show (0 : Int) ≤ 7; omega⟩, ⟨by show (0 : Int) ≤ 0; omega, by show (0 : Int) ≤ 7; omega⟩, ⟨by show (0 : Int) ≤ 0; omega, by show (0 : Int) ≤ 65535; omega⟩, ⟨i0, i1⟩, ⟨by show (0 : Int) ≤ 0; omega, by show (0 : Int) ≤ 65535; omega⟩⟩

/-- An instruction of one byte is done. -/
theorem step_alone {C : Phys} {m m' : Mach} (hs : Sane m) (op : Int) (h0 : 0 ≤ op) (h1 : op ≤ 255) (hc : m.code 0 = op) (ho : aloneB op = true) (r : IRow) (hr : isaOf op 0 = some r) (hrep : repsOf r.name = 0) (hfl : isFlow r.name = false)
    (hdo : ∀ (w : World) (lv : Value), Own w C lv (m.on 1) → Calls Tryz.prog 75 #[.pointer (some ⟨C.b, 0, none⟩), Inst.val (opI op false 0 0), r.val, V.val ⟨0, false⟩] w fun e w' => e = .returned (.tuple #[]) ∧ After C lv w m' w') : StepOk C m m' := by
  have hp : isPre op = false := by
    unfold aloneB at ho
    simp only [Bool.and_eq_true, Bool.not_eq_true'] at ho
    exact ho.1.1.1
  intro w lv h
  exact step_any w C lv m m' h hs.state (opI op false 0 0) 1 (take_alone m.code op hc ho) (plainB_sane hs _ _) (by decide) r (by rw [instRow, hp]; exact hr) (opI_wf op h0 h1 0 (by decide) (by decide)) hrep hfl hdo
/-- One with a word behind it. -/
theorem step_imm {C : Phys} {m m' : Mach} (hs : Sane m) (op : Int) (h0 : 0 ≤ op) (h1 : op ≤ 255) (hc : m.code 0 = op) (x : Int) (hx : m.code 1 + 256 * m.code 2 = x) (x0 : 0 ≤ x) (x1 : x ≤ 65535) (r : IRow) (hp : isPre op = false) (h2 : twoOf op = false) (hr : isaOf op 0 = some r) (h4 : immsOf r = 2)
    (hm : mayB { opI op false 0 0 with imm := x } = true) (hrep : repsOf r.name = 0) (hfl : isFlow r.name = false)
    (hdo : ∀ (w : World) (lv : Value), Own w C lv (m.on 3) → Calls Tryz.prog 75 #[.pointer (some ⟨C.b, 0, none⟩), Inst.val { opI op false 0 0 with imm := x }, r.val, V.val ⟨x, false⟩] w fun e w' => e = .returned (.tuple #[]) ∧ After C lv w m' w') : StepOk C m m' := by
  intro w lv h
  have ht := take_word m.code op hc r hp h2 hr h4 (by rw [hx]; exact hm)
  rw [hx] at ht
  exact step_any w C lv m m' h hs.state { opI op false 0 0 with imm := x } 3 ht (plainB_sane hs _ _) (by decide) r (by rw [instRow, hp]; exact hr) (opI_wf op h0 h1 x x0 x1) hrep hfl hdo

abbrev awkB : List Int := [184, 52, 18, 244]
def awk1 : Mach := ((begun zeroR awkB).on 3).setR (((begun zeroR awkB).on 3).r.put 0 ⟨4660, false⟩)
def awk2 : Mach := (awk1.on 1).end 4
theorem awk_mov (C : Phys) : StepOk C (begun zeroR awkB) awk1 := by
  have c := fun k => code_begun zeroR (by decide) (by decide) awkB k
  refine step_imm (sane_begun _ _) 184 (by decide) (by decide) (c 0 (by decide)) 4660 (by rw [c 1 (by decide), c 2 (by decide)]; rfl) (by decide) (by decide) ⟨35, 22, 7, false⟩ (by decide) (by decide) rfl rfl (by decide) (by decide) (by decide) ?_
  intro w lv h
  refine do_move w C lv _ _ h _ ⟨35, 22, 7, false⟩ ⟨4660, false⟩ (Or.inl rfl) ?_
  intro w lv h
  exact move_mov w C lv _ h _ ⟨35, 22, 7, false⟩ ⟨4660, false⟩ ⟨by decide, by decide⟩ rfl (getOk_bare _ (by decide) (by decide) 7 (by decide) (by decide)) (putOk_bare _ (by decide) (by decide) 22 (by decide) (by decide))
theorem sane_awk1 : Sane awk1 := ⟨rfl, rfl, rfl, rfl, rfl⟩
theorem code_awk1 : awk1.code 0 = 244 := by
  have h := codeIs_on (m' := awk1) (codeIs_begun zeroR (by decide) (by decide) awkB (by decide)) 3 rfl rfl (fun k => rfl)
  exact h 0 (by decide)
theorem awk_hlt (C : Phys) : StepOk C awk1 awk2 := by
  refine step_alone sane_awk1 244 (by decide) (by decide) code_awk1 (by decide) ⟨82, 0, 0, false⟩ rfl (by decide) (by decide) ?_
  intro w lv h
  refine do_flags w C lv _ _ h _ ⟨82, 0, 0, false⟩ ⟨0, false⟩ (by decide) ?_
  intro w lv h
  exact flags_82 w C lv _ h ⟨82, 0, 0, false⟩ rfl
end Go.Proofs.YtcglkefaopgjeaaGreatDoor

/- awake. -/
namespace Go.Proofs.YtcglkefaopgjeaaGreatDoor
set_option linter.unusedSimpArgs false
set_option linter.unusedVariables false
open Go.RowKit

def awkM : Nat → Mach
  | 0 => begun zeroR awkB
  | 1 => awk1
  | _ => awk2
theorem awkM_steps (C : Phys) : ∀ k, k < 2 → StepOk C (awkM k) (awkM (k + 1)) := by
  intro k hk
  match k, hk with
  | 0, _ => exact awk_mov C
  | 1, _ => exact awk_hlt C
theorem awk_says : awk2.ev = [⟨4, 0, 0, 0, 0, 0, 0⟩] ∧ awk2.state = 1 ∧ awk2.r.g0.v = 4660 := ⟨rfl, rfl, rfl⟩
theorem awk_wf : ∀ k, 0 ≤ awkB.getD k 0 ∧ awkB.getD k 0 ≤ 255 := by
  intro k
  match k with
  | 0 | 1 | 2 | 3 => decide
  | k + 4 => simp

set_option maxRecDepth 100000 in
set_option maxHeartbeats 1600000 in
theorem awake_any (w : World) : Calls Tryz.prog 18 #[] w fun e w' => e = .returned (.bool true) ∧ Below w.heap.size w w' := by
  have hrow := Row.new w #[.int .u8 184, .int .u8 52, .int .u8 18, .int .u8 244] 5
  have hcell : ∀ k, k < awkB.length → (w.alloc (.cells #[.int .u8 184, .int .u8 52, .int .u8 18, .int .u8 244] 5)).cell? ⟨w.heap.size, k, none⟩ = some (.int .u8 (awkB.getD k 0)) := by
    intro k hk
    rw [hrow.cell]
    match k, hk with
    | 0, _ | 1, _ | 2, _ | 3, _ => rfl
    | k + 4, h => simp at h; omega
  have HC := Lib.hid hcell
  have HL := Lib.hid hrow.lt
  clear hrow hcell
  go_enter Tryz.func18, Tryz.ntmps18
  go_wp2_with fail
  refine (begin_any _ zeroR zeroR_wf w.heap.size 4 awkB HL.out HC.out awk_wf (by decide)).mono ?_
  rintro e w1 ⟨C, lv, rfl, ho, hb, hn⟩; dsimp only
  have HO1 := Lib.hid ho
  have HB1 := Lib.hid (below_past hb)
  have HN := Lib.hid (fun k (hk : k < w.heap.size) => hn k (by simp; omega))
  clear ho hb hn
  go_wp2_with fail
  refine (run_any _ C lv awkM 2 9 (by decide) (by decide) HO1.out (awkM_steps C) (Or.inr (by decide))).mono ?_
  rintro e w2 ⟨rfl, lv2, h2, f2, k2⟩; dsimp only
  have HO2 := Lib.hid (show Own w2 C lv2 awk2 from h2)
  have HB2 := Lib.hid (below_step HB1.out f2 HN.out)
  clear h2 f2 k2
  have c27 : w2.cell? ⟨C.b, 27, none⟩ = some (.pointer (some ⟨C.wb, 0, none⟩)) := (HO2.out.row.cell 27).trans (mcell27 C _)
  go_wp2_with fail
  have hw := HO2.out.wor
  rw [awk_says.1] at hw
  refine (events_any _ _ _ _ _ hw).mono ?_
  rintro e w3 ⟨v3, rfl, hq, hb3⟩; dsimp only
  have HO3 := Lib.hid (HO2.out.below hb3)
  have HB3 := Lib.hid (HB2.out.trans (hb3.mono HB2.out.size))
  have HQ := Lib.hid hq
  have hv3 : ∃ g cap, v3 = .slice (some ⟨g, 0, none⟩) 1 cap := by
    rcases hq.2 with ⟨_, h0⟩ | ⟨g, cap, _, hv, _⟩
    · cases h0
    · exact ⟨g, cap, hv⟩
  clear c27 hw hq hb3
  obtain ⟨g3, cap3, rfl⟩ := hv3
  have e0 : w3.cell? ⟨g3, 0, none⟩ = some (.int .i64 4) := HQ.out.cells (g := g3) rfl 0 _ rfl
  have c0 : w3.cell? ⟨C.b, 0, none⟩ = some (.int .u16 4660) := (HO3.out.row.cell 0).trans rfl
  go_wp2_with fail
  refine (state_any _ _ _ _ HO3.out).mono ?_
  rw [awk_says.2.1]
  rintro e w' ⟨rfl, rfl⟩; dsimp only
  go_wp2_with fail
  go_ret
  exact ⟨rfl, HB3.out⟩
end Go.Proofs.YtcglkefaopgjeaaGreatDoor
