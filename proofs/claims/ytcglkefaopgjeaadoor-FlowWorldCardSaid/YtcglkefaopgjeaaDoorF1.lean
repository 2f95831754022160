/- The law's own begin and set; awake. -/
import Derived.Test.YtcglkefaopgjeaaDoorF0
namespace Go.Proofs.YtcglkefaopgjeaaDoor
set_option linter.unusedSimpArgs false
set_option linter.unusedVariables false
open Go.RowKit

set_option maxHeartbeats 400000 in
theorem set_any (w : World) (C : Phys) (lv : Value) (m : Mach) (h : Own w C lv m) (r : Regs) (hr : r.wf) :
    Calls Tryd.prog 13 #[.pointer (some ⟨C.b, 0, none⟩), r.val] w fun e w' => e = .returned (.tuple #[]) ∧ After C lv w (m.setR r) w' := by
  have HO0 := Lib.hid h; have HA0 := Lib.hid (Acc.refl C lv w); have sc := HO0.out.sees.c; have sf := HO0.out.sees.f; have sr := HO0.out.sees.r; have ss := HO0.out.sees.s; have sl := HO0.out.sees.l; clear h
  go_enter Tryd.func13, Tryd.ntmps13
  go_wp2_with fail
  go_end0
  exact ⟨rfl, After.mk ((HO0.out.alloc _).putR r hr) ((HA0.out.alloc _).putR r)⟩

def beginR (r : Regs) : Regs := { g0 := ⟨r.g0.v, false⟩, g1 := ⟨r.g1.v, false⟩, g2 := ⟨r.g2.v, false⟩, g3 := ⟨r.g3.v, false⟩, g4 := ⟨r.g4.v, false⟩, g5 := ⟨r.g5.v, false⟩, g6 := ⟨r.g6.v, false⟩, g7 := ⟨r.g7.v, false⟩, s0 := ⟨256, true⟩, s1 := ⟨256, true⟩, s2 := ⟨256, true⟩, s3 := ⟨256, true⟩, ip := r.ip, f := r.f }

def setS (r : Regs) : Nat → Regs
  | 0 => r
  | 1 => { r with s0 := ⟨256, true⟩ }
  | 2 => { r with s0 := ⟨256, true⟩, s1 := ⟨256, true⟩ }
  | 3 => { r with s0 := ⟨256, true⟩, s1 := ⟨256, true⟩, s2 := ⟨256, true⟩ }
  | _ => { r with s0 := ⟨256, true⟩, s1 := ⟨256, true⟩, s2 := ⟨256, true⟩, s3 := ⟨256, true⟩ }
def setG (r : Regs) : Nat → Regs
  | 0 => r
  | 1 => { r with g0 := ⟨r.g0.v, false⟩ }
  | 2 => { r with g0 := ⟨r.g0.v, false⟩, g1 := ⟨r.g1.v, false⟩ }
  | 3 => { r with g0 := ⟨r.g0.v, false⟩, g1 := ⟨r.g1.v, false⟩, g2 := ⟨r.g2.v, false⟩ }
  | 4 => { r with g0 := ⟨r.g0.v, false⟩, g1 := ⟨r.g1.v, false⟩, g2 := ⟨r.g2.v, false⟩, g3 := ⟨r.g3.v, false⟩ }
  | 5 => { r with g0 := ⟨r.g0.v, false⟩, g1 := ⟨r.g1.v, false⟩, g2 := ⟨r.g2.v, false⟩, g3 := ⟨r.g3.v, false⟩, g4 := ⟨r.g4.v, false⟩ }
  | 6 => { r with g0 := ⟨r.g0.v, false⟩, g1 := ⟨r.g1.v, false⟩, g2 := ⟨r.g2.v, false⟩, g3 := ⟨r.g3.v, false⟩, g4 := ⟨r.g4.v, false⟩, g5 := ⟨r.g5.v, false⟩ }
  | 7 => { r with g0 := ⟨r.g0.v, false⟩, g1 := ⟨r.g1.v, false⟩, g2 := ⟨r.g2.v, false⟩, g3 := ⟨r.g3.v, false⟩, g4 := ⟨r.g4.v, false⟩, g5 := ⟨r.g5.v, false⟩, g6 := ⟨r.g6.v, false⟩ }
  | _ => { r with g0 := ⟨r.g0.v, false⟩, g1 := ⟨r.g1.v, false⟩, g2 := ⟨r.g2.v, false⟩, g3 := ⟨r.g3.v, false⟩, g4 := ⟨r.g4.v, false⟩, g5 := ⟨r.g5.v, false⟩, g6 := ⟨r.g6.v, false⟩, g7 := ⟨r.g7.v, false⟩ }

/-- A machine that a call has made, all of whose blocks are its own. -/
def Fresh (w : World) (m : Mach) (e : Ending) (w' : World) : Prop :=
  ∃ C : Phys, ∃ lv : Value, e = .returned (.pointer (some ⟨C.b, 0, none⟩)) ∧ Own w' C lv m ∧ Below w.heap.size w w' ∧ (∀ k, k < w.heap.size → ¬ C.own lv k)

theorem beginR_wf {r : Regs} (h : r.wf) : (beginR r).wf := by
  have z : V.wf ⟨256, true⟩ := ⟨by decide, by decide⟩
  exact ⟨h.g0, h.g1, h.g2, h.g3, h.g4, h.g5, h.g6, h.g7, z, z, z, z, h.ip, h.f⟩
theorem below_of {B : Nat} {w w3 wr w5 : World} {own1 own2 : Nat → Prop} (h : Below B w w3) (f1 : Fr own1 w3 wr) (f2 : Fr own2 wr w5) (h1 : ∀ k, k < B → ¬ own1 k) (h2 : ∀ k, k < B → ¬ own2 k) (hB : B < w3.heap.size) : Below B w w5 :=
  ⟨f2.os.trans (f1.os.trans h.os), f2.tape.trans (f1.tape.trans h.tape), f2.output.trans (f1.output.trans h.output), Nat.le_trans h.size (Nat.le_trans f1.size f2.size),
    fun k hk => ((f2.block k (by have := f1.size; omega) (h2 k hk)).trans (f1.block k (by omega) (h1 k hk))).trans (h.block k hk)⟩
theorem own_lv {C : Phys} {lv lv1 : Value} {B N : Nat} (h : ∀ k, k < B → ¬ C.own lv k) (hk : ∀ k, lv1.ownBlock = some k → lv.ownBlock = some k ∨ N ≤ k) (hN : B ≤ N) : ∀ k, k < B → ¬ C.own lv1 k := by
  intro k hkB
  rintro (e | e | e | e | e)
  · exact h k hkB (Or.inl e)
  · exact h k hkB (Or.inr (Or.inl e))
  · exact h k hkB (Or.inr (Or.inr (Or.inl e)))
  · exact h k hkB (Or.inr (Or.inr (Or.inr (Or.inl e))))
  · rcases hk k e with e | e
    · exact h k hkB (Or.inr (Or.inr (Or.inr (Or.inr e))))
    · omega
theorem news1 (w1 : World) (x : Value) (t : TypeId) : ∀ j u, [x][j]? = some u → (w1.alloc (.cells #[x] t)).cell? ((⟨w1.heap.size, 0, none⟩ : Addr).add j) = some u := by
  intro j u h
  cases j with
  | zero =>
    have e : (⟨w1.heap.size, 0, none⟩ : Addr).add 0 = ⟨w1.heap.size, 0, none⟩ := rfl
    rw [e, (Row.new w1 #[x] t).cell]
    exact h
  | succ j => simp at h

set_option maxRecDepth 100000 in
set_option maxHeartbeats 1600000 in
theorem begin_any (w : World) (r : Regs) (hr : r.wf) : Calls Tryd.prog 10 #[r.val] w (Fresh w ⟨beginR r, 4096, 65536, 0, fun _ => 0, fun _ => 0, [77], 0, []⟩) := by
  go_enter Tryd.func10, Tryd.ntmps10
  go_wp2_with fail
  refine (memNew_any _).mono ?_; rintro e w1 ⟨mb, bb, tb, rfl, hm, hb, k1, k2, k3⟩; dsimp only
  rw [World.size_alloc] at k1 k2 k3
  have HM := Lib.hid hm
  have hb1 : Below (w.heap.size + 1) (w.alloc (.cells r.cells 31)) w1 := by simpa using hb
  have HX := Lib.hid (Below.row hb1 (Row.new w r.cells 31) (by omega))
  have HB := Lib.hid (((Below.refl w.heap.size w).alloc (Nat.le_refl _) (.cells r.cells 31)).trans (hb1.mono (by omega)))
  clear hb hb1 hm
  have sz1 : w.heap.size < w1.heap.size := HX.out.lt
  go_wp2_with fail
  refine (worldNew_some _ ⟨w1.heap.size, 0, none⟩ 1 [77] (news1 w1 _ _) (by decide)).mono ?_
  rintro e w2 ⟨p, rfl, hw, hb2, q1, q2, q3, q4⟩; dsimp only
  rw [World.size_alloc] at q1 q3
  have hbb : Below w1.heap.size w1 w2 := ((Below.refl w1.heap.size w1).alloc (Nat.le_refl _) _).trans (hb2.mono (by simp))
  have HM2 := Lib.hid (HM.out.below hbb)
  have HX2 := Lib.hid (Below.row hbb HX.out HX.out.lt)
  have HB2 := Lib.hid (HB.out.trans (hbb.mono (by omega)))
  have HW := Lib.hid hw
  have Q3 := Lib.hid q3
  have m1 := HM.out.r.lt
  have m2 := HM.out.b.lt
  have m3 := HM.out.t.lt
  have hd4 : ∀ g, p.ra = some g → g ≠ mb ∧ g ≠ bb ∧ g ≠ tb := fun g hg => by have := q3 g hg; omega
  have D4 := Lib.hid hd4
  have Q2 := Lib.hid q2
  have Q4 := Lib.hid q4
  clear hbb hw hb2 q2 q3 q4 hd4
  go_wp2_with fail
  refine (coreNew_any _ mb bb tb _ _ HM2.out p [77] HW.out Q2.out Q4.out (by omega) (by omega) (by omega) D4.out 256 65536 (by decide) (by decide) (by decide) (by decide)).mono ?_
  rintro e w3 ⟨C, rfl, ho, hb3, c1, c2, c3, c4, c5, c6⟩; dsimp only
  have HO := Lib.hid ho
  have hx3 : Row w3 w.heap.size r.cells 31 := Below.row hb3 HX2.out HX2.out.lt
  have HX3 := Lib.hid hx3
  have HB3 := Lib.hid (HB2.out.trans (hb3.mono HB2.out.size))
  have n1 : w.heap.size ≠ C.b := by have := HX2.out.lt; omega
  have n2 : w.heap.size ≠ C.mb := by omega
  have n3 : w.heap.size ≠ C.bb := by omega
  have n4 : w.heap.size ≠ C.tb := by omega
  have n5 : w.heap.size ≠ C.wb := by omega
  have n6 : ∀ g, C.ra = some g → ¬ g = w.heap.size := fun g hg => by
    rw [c6] at hg
    have := Q3.out g hg
    omega
  have keep : ∀ wr, Fr (fun b => b = w.heap.size) w3 wr → Own wr C (.slice none 0 0) ⟨zeroR, 256 * 16, 65536, 0, fun _ => 0, fun _ => 0, [77], 0, []⟩ := fun wr hf =>
    HO.out.kept hf (Ne.symm n1) (Ne.symm n2) (Ne.symm n3) (Ne.symm n4) (Ne.symm n5) n6 (fun g hg => by cases hg)
  have KEEP := Lib.hid keep
  have hown : ∀ k, k < w.heap.size → ¬ C.own (.slice none 0 0) k := by
    intro k hk
    have := HX2.out.lt
    rintro (e | e | e | e | e)
    · omega
    · omega
    · omega
    · omega
    · cases e
  have OWN := Lib.hid hown
  clear keep hown n1 n2 n3 n4 n5 n6 c1 c2 c3 c4 c5 c6 m1 m2 m3 q1 k1 k2 k3 ho hx3 hb3 sz1
  go_wp2_with fail
  go_loopw [4] (fun i wr => ∃ k : Nat, k ≤ 4 ∧ i = .int .i64 k ∧ Row wr w.heap.size (setS r k).cells 31 ∧ Fr (fun b => b = w.heap.size) w3 wr) (fun i _ => 4 - (intOf i).toNat)
  case atStart => exact ⟨0, by omega, rfl, HX3.out, Fr.refl _ _⟩
  case round =>
    obtain ⟨k, hk, rfl, hrow, hfr⟩ := hrel
    have x1 := hrow.cell
    have x2 := hrow.frozen
    have x3 := hrow.lt
    have HR := Lib.hid hrow
    have HFR := Lib.hid hfr
    clear hrow hfr
    have hcases : k = 0 ∨ k = 1 ∨ k = 2 ∨ k = 3 ∨ k = 4 := by omega
    rcases hcases with rfl | rfl | rfl | rfl | rfl
    · go_wp2_with fail
      exact ⟨⟨1, by omega, by rfl, by have := (HR.out.setCell (16 + 2 * 0) (.int .u16 256)).setCell (16 + 2 * 0 + 1) (.bool true); exact this, ((HFR.out.setCell (p := ⟨w.heap.size, _, none⟩) rfl _).setCell (p := ⟨w.heap.size, _, none⟩) rfl _)⟩, by simp [intOf]⟩
    · go_wp2_with fail
      exact ⟨⟨2, by omega, by rfl, by have := (HR.out.setCell (16 + 2 * 1) (.int .u16 256)).setCell (16 + 2 * 1 + 1) (.bool true); exact this, ((HFR.out.setCell (p := ⟨w.heap.size, _, none⟩) rfl _).setCell (p := ⟨w.heap.size, _, none⟩) rfl _)⟩, by simp [intOf]⟩
    · go_wp2_with fail
      exact ⟨⟨3, by omega, by rfl, by have := (HR.out.setCell (16 + 2 * 2) (.int .u16 256)).setCell (16 + 2 * 2 + 1) (.bool true); exact this, ((HFR.out.setCell (p := ⟨w.heap.size, _, none⟩) rfl _).setCell (p := ⟨w.heap.size, _, none⟩) rfl _)⟩, by simp [intOf]⟩
    · go_wp2_with fail
      exact ⟨⟨4, by omega, by rfl, by have := (HR.out.setCell (16 + 2 * 3) (.int .u16 256)).setCell (16 + 2 * 3 + 1) (.bool true); exact this, ((HFR.out.setCell (p := ⟨w.heap.size, _, none⟩) rfl _).setCell (p := ⟨w.heap.size, _, none⟩) rfl _)⟩, by simp [intOf]⟩
    · clear x1 x2 x3
      go_wp2_with fail
      go_loopw [5] (fun i wr => ∃ k : Nat, k ≤ 8 ∧ i = .int .i64 k ∧ Row wr w.heap.size (setG (setS r 4) k).cells 31 ∧ Fr (fun b => b = w.heap.size) w3 wr) (fun i _ => 8 - (intOf i).toNat)
      case atStart => exact ⟨0, by omega, rfl, HR.out, HFR.out⟩
      case round =>
        obtain ⟨k, hk, rfl, hrow, hfr⟩ := hrel
        have x1 := hrow.cell
        have x2 := hrow.frozen
        have x3 := hrow.lt
        have HR1 := Lib.hid hrow
        have HFR1 := Lib.hid hfr
        clear hrow hfr
        have hcases : k = 0 ∨ k = 1 ∨ k = 2 ∨ k = 3 ∨ k = 4 ∨ k = 5 ∨ k = 6 ∨ k = 7 ∨ k = 8 := by omega
        rcases hcases with rfl | rfl | rfl | rfl | rfl | rfl | rfl | rfl | rfl
        · go_wp2_with fail
          exact ⟨⟨1, by omega, by rfl, by have := HR1.out.setCell (2 * 0 + 1) (.bool false); exact this, (HFR1.out.setCell (p := ⟨w.heap.size, _, none⟩) rfl _)⟩, by simp [intOf]⟩
        · go_wp2_with fail
          exact ⟨⟨2, by omega, by rfl, by have := HR1.out.setCell (2 * 1 + 1) (.bool false); exact this, (HFR1.out.setCell (p := ⟨w.heap.size, _, none⟩) rfl _)⟩, by simp [intOf]⟩
        · go_wp2_with fail
          exact ⟨⟨3, by omega, by rfl, by have := HR1.out.setCell (2 * 2 + 1) (.bool false); exact this, (HFR1.out.setCell (p := ⟨w.heap.size, _, none⟩) rfl _)⟩, by simp [intOf]⟩
        · go_wp2_with fail
          exact ⟨⟨4, by omega, by rfl, by have := HR1.out.setCell (2 * 3 + 1) (.bool false); exact this, (HFR1.out.setCell (p := ⟨w.heap.size, _, none⟩) rfl _)⟩, by simp [intOf]⟩
        · go_wp2_with fail
          exact ⟨⟨5, by omega, by rfl, by have := HR1.out.setCell (2 * 4 + 1) (.bool false); exact this, (HFR1.out.setCell (p := ⟨w.heap.size, _, none⟩) rfl _)⟩, by simp [intOf]⟩
        · go_wp2_with fail
          exact ⟨⟨6, by omega, by rfl, by have := HR1.out.setCell (2 * 5 + 1) (.bool false); exact this, (HFR1.out.setCell (p := ⟨w.heap.size, _, none⟩) rfl _)⟩, by simp [intOf]⟩
        · go_wp2_with fail
          exact ⟨⟨7, by omega, by rfl, by have := HR1.out.setCell (2 * 6 + 1) (.bool false); exact this, (HFR1.out.setCell (p := ⟨w.heap.size, _, none⟩) rfl _)⟩, by simp [intOf]⟩
        · go_wp2_with fail
          exact ⟨⟨8, by omega, by rfl, by have := HR1.out.setCell (2 * 7 + 1) (.bool false); exact this, (HFR1.out.setCell (p := ⟨w.heap.size, _, none⟩) rfl _)⟩, by simp [intOf]⟩
        · have xr : regsIn wr w.heap.size = some (beginR r).val := (regsIn_row HR1.out).trans (rowRegs_regs _)
          have HO4 := Lib.hid (KEEP.out _ HFR1.out)
          clear x1 x2
          go_wp2_with (go_at_call 13; refine (set_any _ C (.slice none 0 0) _ HO4.out (beginR r) (beginR_wf hr)).mono ?_; rintro e w5 ⟨rfl, lv5, h5, f5, k5⟩; have HO5 := Lib.hid h5; have HF5 := Lib.hid f5; have K5 := Lib.hid k5; clear h5 f5 k5)
          go_ret
          exact ⟨C, lv5, rfl, HO5.out, below_of HB3.out HFR1.out HF5.out (fun k hk e => by omega) OWN.out HX3.out.lt, own_lv OWN.out K5.out (Nat.le_trans (Nat.le_of_lt HX3.out.lt) HFR1.out.size)⟩
end Go.Proofs.YtcglkefaopgjeaaDoor
