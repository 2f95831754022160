/- Parts of the proof, in one text: YtcglkefaopgjeaaGreatDoorI7 YtcglkefaopgjeaaGreatDoorI8 YtcglkefaopgjeaaGreatDoorJC YtcglkefaopgjeaaGreatDoorK0 YtcglkefaopgjeaaGreatDoorL0. Each part's own remark says what it proves; conditions: those of each theorem. -/
import Derived.Test.YtcglkefaopgjeaaGreatDoorW5
import Derived.Test.YtcglkefaopgjeaaGreatDoorW6
import Derived.Test.YtcglkefaopgjeaaGreatDoorW7
import Derived.Test.YtcglkefaopgjeaaGreatDoorW8
import Derived.Deep.CutBlock

/- Package cpu: Fetch. -/
namespace Go.Proofs.YtcglkefaopgjeaaGreatDoor
set_option linter.unusedSimpArgs false
set_option linter.unusedVariables false
open Go.RowKit

/-- The bytes behind IP. -/
def Mach.code (m : Mach) (k : Nat) : Int := m.mem (lin m.r.s1.v (IntKind.u16.wrap (m.r.ip + k)))

theorem behindF_op (bs : Nat → Int) (n : Nat) (i : Inst) (r : IRow) : (behindF bs n i r).1.op = i.op ∧ (behindF bs n i r).1.reg = i.reg ∧ n ≤ (behindF bs n i r).2 ∧ (behindF bs n i r).2 ≤ n + 4 ∧ (immsOf r = 2 ∨ immsOf r = 4 → n + 2 ≤ (behindF bs n i r).2) := by
  unfold behindF
  split
  · exact ⟨rfl, rfl, by dsimp only; omega, by dsimp only; omega, by omega⟩
  · split
    · exact ⟨rfl, rfl, by dsimp only; omega, by dsimp only; omega, fun _ => by dsimp only; omega⟩
    · split
      · exact ⟨rfl, rfl, by dsimp only; omega, by dsimp only; omega, fun _ => by dsimp only; omega⟩
      · exact ⟨rfl, rfl, by dsimp only; omega, by dsimp only; omega, by omega⟩
theorem takeF_row {bs : Nat → Int} (hb : ∀ k, 0 ≤ bs k ∧ bs k ≤ 255) {i : Inst} {n : Nat} (h : takeF bs = some (i, n)) :
    ∃ r, instRow i.op i.reg = some r ∧ i.wf ∧ n ≤ 11 ∧ (immsOf r = 2 ∨ immsOf r = 4 → 2 ≤ n) := by
  unfold takeF at h
  cases ha : aheadF bs 4 0 false 0 0 with
  | none => rw [ha] at h; cases h
  | some x =>
    obtain ⟨op, k, lock, rep, seg⟩ := x
    rw [ha] at h
    dsimp only at h
    have hw := aheadF_wf hb 4 0 false 0 0 op k lock rep seg ha
    have i0wf : (opI op lock rep seg).wf := ⟨⟨hw.2.1, hw.2.2⟩, ⟨by show (0 : Int) ≤ 0; omega, by show (0 : Int) ≤ 3; omega⟩, ⟨by show (0 : Int) ≤ 0; omega, by show (0 : Int) ≤ 7; omega⟩, ⟨by show (0 : Int) ≤ 0; omega, by show (0 : Int) ≤ 7; omega⟩, ⟨by show (0 : Int) ≤ 0; omega, by show (0 : Int) ≤ 65535; omega⟩, ⟨by show (0 : Int) ≤ 0; omega, by show (0 : Int) ≤ 65535; omega⟩, ⟨by show (0 : Int) ≤ 0; omega, by show (0 : Int) ≤ 65535; omega⟩⟩
    obtain ⟨p, hp⟩ : ∃ p, twoF bs op k lock rep seg = p := ⟨_, rfl⟩
    have hpw : p.1.wf ∧ p.2 ≤ 7 := by
      rw [← hp, twoF]
      split
      · have := secondF_wf hb k _ i0wf
        exact ⟨this.1, by omega⟩
      · exact ⟨i0wf, by dsimp only; omega⟩
    rw [hp] at h
    unfold restF at h
    cases hi : isaOf p.1.op p.1.reg with
    | none => rw [hi] at h; cases h
    | some r =>
      rw [hi] at h
      dsimp only at h
      cases hm : mayB (behindF bs p.2 p.1 r).1 with
      | false => rw [hm] at h; cases h
      | true =>
        rw [hm, if_pos rfl] at h
        have e : behindF bs p.2 p.1 r = (i, n) := Option.some.inj h
        have b := behindF_op bs p.2 p.1 r
        have bw := behindF_wf hb p.2 p.1 r hpw.1
        rw [e] at b bw hm
        dsimp only at b bw hm
        refine ⟨r, ?_, bw, by omega, fun x => by have := b.2.2.2.2 x; omega⟩
        rw [mayB] at hm
        cases hx : instRow i.op i.reg with
        | none => rw [hx] at hm; cases hm
        | some r' =>
          unfold instRow at hx
          split at hx
          · cases hx
          · rw [b.1, b.2.1, hi] at hx
            exact hx.symm
theorem plainB_tag {m : Mach} {but : Int} (hb : but = -1) {n : Nat} (h : m.plainB but n = true) {k : Nat} (hk : k < n) : m.tag (lin m.r.s1.v (IntKind.u16.wrap (m.r.ip + k))) = 0 := by
  induction n with
  | zero => omega
  | succ n ih =>
    rw [Mach.plainB, Bool.and_eq_true] at h
    by_cases e : k = n
    · subst e
      have := h.2
      rw [Mach.oneB, hb, Bool.and_eq_true] at this
      simpa using this.2
    · exact ih h.1 (by omega)

theorem regsIn_setCell_other (w : World) (p : Addr) (v : Value) (g : Nat) (h : g ≠ p.block) : regsIn (w.setCell p v) g = regsIn w g := by
  unfold regsIn
  rw [Below.heap_setCell _ _ _ _ h]
theorem seg1_any (r : Regs) (w : World) : Calls Tryz.prog 64 #[r.val, .int .i64 1] w fun e w' => e = .returned (.agg #[.int .u16 r.s1.v, .bool r.s1.t]) ∧ Below w.heap.size w w' := seg_any r 1 w
abbrev zeroB : Array Value := #[.int .u8 0, .int .u8 0, .int .u8 0, .int .u8 0, .int .u8 0, .int .u8 0, .int .u8 0, .int .u8 0, .int .u8 0, .int .u8 0, .int .u8 0, .int .u8 0]
abbrev vcells (x : V) : Array Value := #[.int .u16 x.v, .bool x.t]
end Go.Proofs.YtcglkefaopgjeaaGreatDoor

/- Package cpu: Fetch, where an instruction stands and all its bytes are the program's and plain. -/
namespace Go.Proofs.YtcglkefaopgjeaaGreatDoor
set_option linter.unusedSimpArgs false
set_option linter.unusedVariables false
open Go.RowKit

theorem lt_n (w : World) (o : Obj) : w.heap.size < (w.alloc o).heap.size := by rw [World.size_alloc]; exact Nat.lt_succ_self _

theorem results_fetch (tmps : Array Value) (w : World) (a b c : Nat) (i : Inst) (n : Nat) (x y : Int) (h2 : tmps.getD 2 undef = .pointer (some ⟨a, 0, none⟩)) (h3 : tmps.getD 3 undef = .int .i64 n) (h4 : tmps.getD 4 undef = .pointer (some ⟨b, 0, none⟩)) (h5 : tmps.getD 5 undef = .pointer (some ⟨c, 0, none⟩)) (h6 : tmps.getD 6 undef = .bool true)
    (hi : Row w a i.cells 30) (hb : Row w b #[.int .u16 x, .bool false] 24) (hc : Row w c #[.int .u16 y, .bool false] 24) :
    (results (Tryz.f17) tmps).run Tryz.prog w = .ok (.tuple #[i.val, .int .i64 n, V.val ⟨x, false⟩, V.val ⟨y, false⟩, .bool true]) w := by
  have g2 : tmps[2]?.getD undef = .pointer (some ⟨a, 0, none⟩) := by simpa using h2
  have g3 : tmps[3]?.getD undef = .int .i64 n := by simpa using h3
  have g4 : tmps[4]?.getD undef = .pointer (some ⟨b, 0, none⟩) := by simpa using h4
  have g5 : tmps[5]?.getD undef = .pointer (some ⟨c, 0, none⟩) := by simpa using h5
  have g6 : tmps[6]?.getD undef = .bool true := by simpa using h6
  have li := run_loadVar_row (P := Tryz.prog) w a 30 30 i.cells (0, 0) _ hi Tryz.underlying30 rfl (by kernel_rfl)
  have lb := run_loadVar_row (P := Tryz.prog) w b 24 24 #[.int .u16 x, .bool false] (0, 0) _ hb Tryz.underlying24 rfl (by kernel_rfl)
  have lc := run_loadVar_row (P := Tryz.prog) w c 24 24 #[.int .u16 y, .bool false] (0, 0) _ hc Tryz.underlying24 rfl (by kernel_rfl)
  simp [results, Tryz.results17, g2, g3, g4, g5, g6, asAddr, li, lb, lc]
theorem le3 {a b : Nat} (h : a + 1 + 1 + 1 ≤ b) : a ≤ b := by omega
theorem belowZ {B : Nat} {a b c : World} (h : Below B a b) (hB : B ≤ a.heap.size) (k : Below b.heap.size b c) : Below B a c := h.trans (k.mono (Nat.le_trans hB h.size))
def WordAt (w : World) (k : Nat) : Prop := ∃ x : Int, Row w k #[.int .u16 x, .bool false] 24
theorem wordAt_new (w : World) (x : Int) (t : Bool) (ht : t = false) : WordAt (w.alloc (.cells #[.int .u16 x, .bool t] 24)) w.heap.size := ⟨x, ht ▸ Row.new _ _ _⟩
theorem wordAt_set {w : World} {k : Nat} {a b : Value} (h : Row w k #[a, b] 24) (x : Int) (t : Bool) (ht : t = false) : WordAt ((w.setCell ⟨k, 0, none⟩ (.int .u16 x)).setCell ⟨k, 1, none⟩ (.bool t)) k := ⟨x, ht ▸ row_s2 h⟩

set_option maxRecDepth 100000 in
set_option maxHeartbeats 6400000 in
theorem fetch_ok (w : World) (C : Phys) (lv : Value) (m : Mach) (h : Own w C lv m) (i : Inst) (n : Nat) (ht : takeF m.code = some (i, n)) (hp : m.plainB (-1) n = true) :
    Calls Tryz.prog 17 #[.pointer (some ⟨C.b, 0, none⟩)] w fun e w' => e = .returned (.tuple #[i.val, .int .i64 n, V.val ⟨i.imm, false⟩, V.val ⟨i.sel, false⟩, .bool true]) ∧ Below w.heap.size w w' := by
  have H := Lib.hid h
  have s1w := h.wf.r.s1
  have p0 := s1w.1
  have p1 := s1w.2
  have hb0 := ((((Below.refl w.heap.size w).alloc (Nat.le_refl _) (.cells zeroI.cells 30)).alloc (by simp) (.cells #[.int .u16 0, .bool false] 24)).alloc (by simp; omega) (.cells #[.int .u16 0, .bool false] 24)).alloc (by simp; omega) (.cells zeroB 108)
  have HB0 := Lib.hid hb0
  have HA0 := Lib.hid (Row.new' (w := ((w.alloc (.cells zeroI.cells 30)).alloc (.cells #[.int .u16 0, .bool false] 24)).alloc (.cells #[.int .u16 0, .bool false] 24)) (n := w.heap.size + 1 + 1 + 1) (cs := zeroB) (t := 108) (by simp))
  have HI0 := Lib.hid ((((Row.new w zeroI.cells 30).alloc (.cells #[.int .u16 0, .bool false] 24)).alloc (.cells #[.int .u16 0, .bool false] 24)).alloc (.cells zeroB 108))
  have HT0 := Lib.hid (((Row.new' (w := w.alloc (.cells zeroI.cells 30)) (n := w.heap.size + 1) (cs := #[.int .u16 0, .bool false]) (t := 24) (by simp)).alloc (.cells #[.int .u16 0, .bool false] 24)).alloc (.cells zeroB 108))
  have HS0 := Lib.hid ((Row.new' (w := (w.alloc (.cells zeroI.cells 30)).alloc (.cells #[.int .u16 0, .bool false] 24)) (n := w.heap.size + 1 + 1) (cs := #[.int .u16 0, .bool false]) (t := 24) (by simp)).alloc (.cells zeroB 108))
  clear h hb0
  go_enter Tryz.func17, Tryz.ntmps17
  go_wp2_with fail
  generalize (((w.alloc (.cells zeroI.cells 30)).alloc (.cells #[.int .u16 0, .bool false] 24)).alloc (.cells #[.int .u16 0, .bool false] 24)).alloc (.cells zeroB 108) = W0 at *
  go_loopw [22] (fun i wr => ∃ (k : Nat) (cs : Array Value), k ≤ 12 ∧ i = .int .i64 k ∧ cs.size = 12 ∧ (∀ j, j < k → cs[j]? = some (.int .u8 (m.code j))) ∧ Row wr (w.heap.size + 1 + 1 + 1) cs 108 ∧ Below (w.heap.size + 1 + 1 + 1) W0 wr) (fun i _ => 12 - (intOf i).toNat)
  case atStart => exact ⟨0, zeroB, by omega, rfl, rfl, fun _ hj => absurd hj (Nat.not_lt_zero _), HA0.out, Below.refl _ _⟩
  case round =>
    obtain ⟨k, cs, hk, rfl, hcs, hby, hrow, hbl⟩ := hrel
    have hb1 := HB0.out.trans (hbl.mono (by omega))
    have HBW := Lib.hid hbl
    have B3 := Lib.hid (show w.heap.size + 1 + 1 + 1 ≤ W0.heap.size from Nat.le_of_lt HA0.out.lt)
    have HO := Lib.hid (H.out.below hb1)
    have HR := Lib.hid hrow
    have HBL := Lib.hid hbl
    have HBY := Lib.hid hby
    clear hb1 hrow hbl hby
    by_cases hlt : k < 12
    · have hi : ((k : Nat) : Int) < 12 := by omega
      go_wp2_with fail
      refine (here_any _ _ _ _ HO.out k (by omega) (by omega)).mono ?_
      obtain ⟨o, ho⟩ : ∃ o, IntKind.u16.wrap (m.r.ip + k) = o := ⟨_, rfl⟩
      have o0 : 0 ≤ o := ho ▸ wrap16_lo _
      have o1 : o ≤ 65535 := ho ▸ wrap16_hi _
      have HOFF := Lib.hid ho
      rw [ho]
      clear ho
      rintro e w1 ⟨rfl, hb⟩; dsimp only
      have hr1 := Below.row hb HR.out HR.out.lt
      have HO1 := Lib.hid ((HO.out.below hb).alloc (.cells #[.int .u16 m.r.s1.v, .bool m.r.s1.t, .int .u16 o] 52))
      have HR1 := Lib.hid (hr1.alloc (.cells #[.int .u16 m.r.s1.v, .bool m.r.s1.t, .int .u16 o] 52))
      have hb2 := (HBL.out.trans (hb.mono (by have := HR.out.lt; omega)))
      have HBL1 := Lib.hid (hb2.alloc (by have := hr1.lt; omega) (.cells #[.int .u16 m.r.s1.v, .bool m.r.s1.t, .int .u16 o] 52))
      have HX1 := Lib.hid (Row.new w1 #[.int .u16 m.r.s1.v, .bool m.r.s1.t, .int .u16 o] 52)
      have HNE := Lib.hid (show w1.heap.size ≠ w.heap.size + 1 + 1 + 1 by have := hr1.lt; omega)
      clear hb hr1 hb2
      go_upto_region 6 with fail
      generalize w1.alloc (.cells #[.int .u16 m.r.s1.v, .bool m.r.s1.t, .int .u16 o] 52) = W1 at HO1 HR1 HBL1 HX1 ⊢
      have c26 : W1.cell? ⟨C.b, 26, none⟩ = some (.pointer (some ⟨C.mb, 0, none⟩)) := (HO1.out.row.cell 26).trans (mcell26 C m)
      have x0 : W1.cell? ⟨w1.heap.size, 0, none⟩ = some (.int .u16 m.r.s1.v) := HX1.out.cell 0
      have x2 : W1.cell? ⟨w1.heap.size, 2, none⟩ = some (.int .u16 o) := HX1.out.cell 2
      have ra := HR1.out.cell k
      have ra2 : W1.cell? ⟨w.heap.size + 1 + 1 + 1, k, none⟩ = some (cs[k]'(by omega)) := by rw [ra, Array.getElem?_eq_getElem (by omega)]
      have rf := HR1.out.frozen k
      have i1 : (0 : Int) ≤ (k : Int) := by omega
      have i2 : ¬ (12 : Int) ≤ (k : Int) := by omega
      have ne1 : ¬ C.b = w.heap.size + 1 + 1 + 1 := by have := H.out.row.lt; omega
      have ne2 : ¬ w.heap.size + 1 + 1 + 1 = C.b := by omega
      have ne3 : ¬ w1.heap.size = w.heap.size + 1 + 1 + 1 := HNE.out
      have ne4 : ¬ w.heap.size + 1 + 1 + 1 = w1.heap.size := by omega
      clear ra
      have CL := Lib.hid (HO1.out.mem)
      go_region_held3 (fun w' => w'.cell? ⟨C.b, 26, none⟩ = some (.pointer (some ⟨C.mb, 0, none⟩)) ∧ w'.cell? ⟨w1.heap.size, 0, none⟩ = some (.int .u16 m.r.s1.v) ∧ w'.cell? ⟨w1.heap.size, 2, none⟩ = some (.int .u16 o)) (go_keep) ((go_at_call 57; refine (memByte_any _ _ _ _ _ _ (CL.out.drew) m.r.s1.v o p0 p1 o0 o1).mono ?_; rintro e w' ⟨rfl, rfl⟩))
      clear c26 x0 x2 ra2 rf ne1 ne2 ne3 ne4
      go_wp2_with fail
      have hr2 := (HR1.out.setCell k (.int .u8 (m.mem (lin m.r.s1.v o)))).drew
      have hb2 := (HBL1.out.setCell (p := ⟨w.heap.size + 1 + 1 + 1, k, none⟩) (Nat.le_refl _) (.int .u8 (m.mem (lin m.r.s1.v o)))).drew
      refine ⟨⟨k + 1, _, by omega, by go_num, by rw [Array.size_setIfInBounds]; exact hcs, fun j hj => ?_, hr2, hb2⟩, by simp [intOf]; omega⟩
      by_cases e : j = k
      · subst e
        rw [Array.getElem?_setIfInBounds_self_of_lt (by omega), Mach.code, HOFF.out]
      · rw [Array.getElem?_setIfInBounds_ne (Ne.symm e)]
        exact HBY.out j (by omega)
    · obtain rfl : k = 12 := by omega
      have HBF := Lib.hid (show ∀ j, j < 12 → wr.cell? ⟨w.heap.size + 1 + 1 + 1, j, none⟩ = some (.int .u8 (m.code j)) from fun j hj => (HR.out.cell j).trans (HBY.out j hj))
      go_wp2_with fail
      refine (scanGet_any _ _ m.code HBF.out HR.out.lt (fun k => HO.out.mem.wf _)).mono ?_
      rw [ht]
      rintro e w1 ⟨rfl, hb⟩; dsimp only [GetVal]
      have HO1 := Lib.hid (HO.out.below hb)
      have HBW1 := Lib.hid (belowZ HBW.out B3.out hb)
      clear hb
      obtain ⟨⟨rn, ra, rb, rmod⟩, hr, hiw, hn11, hn2⟩ := takeF_row (fun k => H.out.mem.wf _) ht
      have HX1 := Lib.hid (Row.new w1 i.cells 30)
      have HO2 := Lib.hid (HO1.out.alloc (.cells i.cells 30))
      have HBW2 := Lib.hid (HBW1.out.alloc (Nat.le_trans B3.out HBW1.out.size) (.cells i.cells 30))
      go_wp2_with fail
      refine (instRow_any i _ hiw.op.1 hiw.op.2 hiw.reg.1 hiw.reg.2).mono ?_
      rw [hr, rowV_some]
      rintro e w2 ⟨rfl, hb⟩; dsimp only
      have HO3 := Lib.hid ((HO2.out.below hb).alloc (.cells #[.int .i64 rn, .int .i64 ra, .int .i64 rb, .bool rmod] 47))
      have HX3 := Lib.hid ((Below.row hb HX1.out HX1.out.lt).alloc (.cells #[.int .i64 rn, .int .i64 ra, .int .i64 rb, .bool rmod] 47))
      have HY3 := Lib.hid (Row.new w2 #[.int .i64 rn, .int .i64 ra, .int .i64 rb, .bool rmod] 47)
      have hbw2 := belowZ HBW2.out B3.out hb
      have HBW3 := Lib.hid (hbw2.alloc (Nat.le_trans B3.out hbw2.size) (.cells #[.int .i64 rn, .int .i64 ra, .int .i64 rb, .bool rmod] 47))
      clear hb hbw2
      go_upto_region 15 with fail
      generalize w2.alloc (.cells #[.int .i64 rn, .int .i64 ra, .int .i64 rb, .bool rmod] 47) = W3 at HO3 HX3 HY3 HBW3 ⊢
      have xc := HX3.out.cell
      have xl := HX3.out.lt
      go_cut [15, 16] (fun s15 s16 wx => ∃ k1 k2 : Nat, s15 = .pointer (some ⟨k1, 0, none⟩) ∧ s16 = .pointer (some ⟨k2, 0, none⟩) ∧ W3.heap.size ≤ k1 ∧ W3.heap.size ≤ k2 ∧ k1 ≠ k2 ∧ Row wx k1 #[.int .u16 i.imm, .bool false] 24 ∧ Row wx k2 #[.int .u16 i.sel, .bool false] 24 ∧ Below W3.heap.size W3 wx)
      case first =>
        go_region
        · go_wp2_with fail
          go_meet
          refine ⟨_, _, rfl, rfl, ?_, ?_, ?_, ?_, ?_, ?_⟩ <;> first | (simp; done) | (simp; omega) | ((repeat (first | exact Below.refl _ _ | assumption | refine Below.setCell ?_ (by simp) _ | refine Below.alloc ?_ (by simp <;> omega) _ | refine Below.drew ?_ | refine Below.drewN ?_ | refine Below.setRow ?_ (by simp <;> omega) _)); done) | ((repeat (first | assumption | (refine Row.new' ?_; simp; done) | refine Row.alloc ?_ _ | refine Row.drew ?_ | refine Row.drewN ?_ | refine Row.setCell_other ?_ _ _ (by simp; omega))); done)
        · go_wp2_with fail
          go_meet
          refine ⟨_, _, rfl, rfl, ?_, ?_, ?_, ?_, ?_, ?_⟩ <;> first | (simp; done) | (simp; omega) | ((repeat (first | exact Below.refl _ _ | assumption | refine Below.setCell ?_ (by simp) _ | refine Below.alloc ?_ (by simp <;> omega) _ | refine Below.drew ?_ | refine Below.drewN ?_ | refine Below.setRow ?_ (by simp <;> omega) _)); done) | ((repeat (first | assumption | (refine Row.new' ?_; simp; done) | refine Row.alloc ?_ _ | refine Row.drew ?_ | refine Row.drewN ?_ | refine Row.setCell_other ?_ _ _ (by simp; omega))); done)
      case rest =>
        obtain ⟨k1, k2, rfl, rfl, l1, l2, hne, hk1, hk2, hbw⟩ := hcut
        have HO4 := Lib.hid (HO3.out.below hbw)
        have HX4 := Lib.hid (Below.row hbw HX3.out HX3.out.lt)
        have HY4 := Lib.hid (Below.row hbw HY3.out HY3.out.lt)
        have HBW4 := Lib.hid (belowZ HBW3.out B3.out hbw)
        have HK1 := Lib.hid hk1
        have HK2 := Lib.hid hk2
        have HNE := Lib.hid hne
        have HL1 := Lib.hid (show w.heap.size + 1 + 1 + 1 ≤ k1 from Nat.le_trans B3.out (Nat.le_trans HBW3.out.size l1))
        have HL2 := Lib.hid (show w.heap.size + 1 + 1 + 1 ≤ k2 from Nat.le_trans B3.out (Nat.le_trans HBW3.out.size l2))
        have NX1 := Lib.hid (show w1.heap.size ≠ k1 by have := HX3.out.lt; omega)
        have NX2 := Lib.hid (show w1.heap.size ≠ k2 by have := HX3.out.lt; omega)
        clear hbw hk1 hk2 hne xc xl l1 l2
        have yc := HY4.out.cell
        go_upto_block 2 with fail
        refine (imms_any ⟨rn, ra, rb, rmod⟩ _).mono ?_
        obtain ⟨nb, hnb⟩ : ∃ nb, immsOf ⟨rn, ra, rb, rmod⟩ = nb := ⟨_, rfl⟩
        rw [hnb] at hn2
        rw [hnb]
        rintro e w5 ⟨rfl, hb⟩; dsimp only
        have HO5 := Lib.hid (HO4.out.below hb)
        have HX5 := Lib.hid (Below.row hb HX4.out HX4.out.lt)
        have HY5 := Lib.hid (Below.row hb HY4.out HY4.out.lt)
        have HK5 := Lib.hid (Below.row hb HK1.out HK1.out.lt)
        have HJ5 := Lib.hid (Below.row hb HK2.out HK2.out.lt)
        have HBW5 := Lib.hid (belowZ HBW4.out B3.out hb)
        clear hb yc
        go_upto_block 2 with fail
        go_cut [17] (fun s17 wx => ∃ x : Int, s17 = .int .i64 x ∧ Row wx w1.heap.size i.cells 30 ∧ Row wx k1 #[.int .u16 i.imm, .bool false] 24 ∧ Row wx k2 #[.int .u16 i.sel, .bool false] 24 ∧ Own wx C lv m ∧ Below (w.heap.size + 1 + 1 + 1) W0 wx)
        case first =>
          have cases3 : nb = 2 ∨ nb = 4 ∨ ((nb == 2) = false ∧ (nb == 4) = false) := by simp only [beq_eq_false_iff_ne]; omega
          rcases cases3 with rfl | rfl | ⟨t2, t4⟩
          · have n2 : 2 ≤ n := hn2 (Or.inl rfl)
            obtain ⟨p1, hp1⟩ : ∃ p, (ra == 7) = p := ⟨_, rfl⟩
            obtain ⟨p2, hp2⟩ : ∃ p, (rb == 7) = p := ⟨_, rfl⟩
            have yc := HY5.out.cell
            cases p1 <;> cases p2
            · go_wp2_with fail
              go_meet
              exact ⟨_, rfl, HX5.out, HK5.out, HJ5.out, HO5.out, HBW5.out⟩
            rotate_left 2
            · exfalso
              have e1 : ra = 7 := by simpa using hp1
              have e2 : rb = 7 := by simpa using hp2
              rw [e1, e2] at hnb
              simp [immsOf, immOf] at hnb
            all_goals
              go_upto_region 21 with fail
              go_cut [18] (fun s18 wx => ∃ k : Nat, s18 = .pointer (some ⟨k, 0, none⟩) ∧ WordAt wx k ∧ Below w5.heap.size w5 wx)
              case first =>
                have ew : IntKind.u16.wrap ((n : Int) - 2) = ((n - 2 : Nat) : Int) := by rw [IntKind.wrap_u16]; omega
                have hT : mwordT m.tag (lin m.r.s1.v (IntKind.u16.wrap (m.r.ip + IntKind.u16.wrap ((n : Int) - 2)))) (lin m.r.s1.v (succW (IntKind.u16.wrap (m.r.ip + IntKind.u16.wrap ((n : Int) - 2))))) = false := by
                  rw [mwordT, ew, plainB_tag rfl hp (by omega)]; rfl
                clear ew
                have HTT := Lib.hid hT; clear hT
                have c26 : w5.cell? ⟨C.b, 26, none⟩ = some (.pointer (some ⟨C.mb, 0, none⟩)) := (HO5.out.row.cell 26).trans (mcell26 C m)
                have c24 : w5.cell? ⟨C.b, 24, none⟩ = some (.int .u16 m.r.ip) := (HO5.out.row.cell 24).trans (mcell24 C m)
                have sr := HO5.out.sees.r
                have sl := HO5.out.row.lt
                have f5 : ¬ C.b = w5.heap.size := Nat.ne_of_lt sl
                have f6 : ¬ w5.heap.size = C.b := Ne.symm (Nat.ne_of_lt sl)
                go_region_held3 (fun w' => regsIn w' C.b = some m.r.val ∧ w'.cell? ⟨C.b, 26, none⟩ = some (.pointer (some ⟨C.mb, 0, none⟩)) ∧ w'.cell? ⟨C.b, 24, none⟩ = some (.int .u16 m.r.ip)) ((refine ⟨?_, ?_, ?_⟩; (focus ((repeat (first | assumption | (rw [regsIn_drew]) | (rw [regsIn_alloc_past _ _ _ (by first | assumption | (simp; omega))]) | (refine (regsIn_setCell_other _ _ _ _ ?_).trans ?_; (focus (first | (simp; done) | (simp; omega) | (simp [*]; done)))))); done)); (focus (go_keep)); (focus (go_keep)))) (first | (go_at_call 64; refine (seg1_any m.r _).mono ?_; rintro e w8 ⟨rfl, hb⟩; have HB8 := Lib.hid (below_in (a := w5) (by (repeat (first | exact Below.refl _ _ | refine below_alloc ?_ _ | refine Below.drew ?_))) hb); have HO8 := Lib.hid (Own.below (C := C) (lv := lv) (m := m) (by (repeat (first | exact HO5.out | refine Own.alloc ?_ _ | refine Own.drew ?_))) hb); have q26 : w8.cell? ⟨C.b, 26, none⟩ = some (.pointer (some ⟨C.mb, 0, none⟩)) := (HO8.out.row.cell 26).trans (mcell26 C m); have q24 : w8.cell? ⟨C.b, 24, none⟩ = some (.int .u16 m.r.ip) := (HO8.out.row.cell 24).trans (mcell24 C m); have qr := HO8.out.sees.r; have ql := HO8.out.row.lt; have f1 : ¬ C.b = w8.heap.size := Nat.ne_of_lt ql; have f2 : ¬ w8.heap.size = C.b := Ne.symm (Nat.ne_of_lt ql); (try ((first | with_reducible have R8 := Below.row hb (row_d w5 #[.int .u16 0, .bool false] 24) (lt_d w5 _) | with_reducible have R8 := Below.row hb (row_e w5 #[.int .u16 0, .bool false] 24) (lt_e w5 _)); have rc8 := R8.cell; have rf8 := R8.frozen; have rl8 := R8.lt)); clear hb) | (go_at_call 63; refine (memWord_any C.mb C.bb C.tb m.mem m.tag _ (by (repeat (first | exact HO8.out.mem | refine MemAt.alloc ?_ _ | refine MemAt.drew ?_))) _ _ p0 p1 (wrap16_lo _) (wrap16_hi _)).mono ?_; rintro e w9 ⟨rfl, hb⟩; have HB9 := Lib.hid (below_in (a := w5) (by (repeat (first | exact Below.refl _ _ | exact HB8.out | refine below_alloc ?_ _ | refine Below.drew ?_))) hb); have HO9 := Lib.hid (Own.below (C := C) (lv := lv) (m := m) (by (repeat (first | exact HO8.out | refine Own.alloc ?_ _ | refine Own.drew ?_))) hb); have s26 : w9.cell? ⟨C.b, 26, none⟩ = some (.pointer (some ⟨C.mb, 0, none⟩)) := (HO9.out.row.cell 26).trans (mcell26 C m); have s24 : w9.cell? ⟨C.b, 24, none⟩ = some (.int .u16 m.r.ip) := (HO9.out.row.cell 24).trans (mcell24 C m); have s_r := HO9.out.sees.r; have s_l := HO9.out.row.lt; have f3 : ¬ C.b = w9.heap.size := Nat.ne_of_lt s_l; have f4 : ¬ w9.heap.size = C.b := Ne.symm (Nat.ne_of_lt s_l); (try ((with_reducible have R9 := Below.row hb R8 rl8); have rc9 := R9.cell; have rf9 := R9.frozen; have rl9 := R9.lt)); (try ((with_reducible have Q9 := Below.row hb (Row.new w8 #[.int .u16 0, .bool false] 24) (lt_n w8 _)); have qc9 := Q9.cell; have qf9 := Q9.frozen; have ql9 := Q9.lt)); clear hb))
                all_goals
                  go_wp2_with fail
                  go_meet
                  refine ⟨_, rfl, ?_, ?_⟩
                  · first | (with_reducible exact wordAt_new w9 _ _ HTT.out) | (with_reducible exact wordAt_set R9 _ _ HTT.out) | (with_reducible exact wordAt_set Q9 _ _ HTT.out)
                  · have l8 := HB8.out.size
                    have l9 := HB9.out.size
                    repeat (first | (with_reducible exact HB9.out) | (with_reducible refine below_alloc ?_ _) | (with_reducible refine Below.drew ?_) | (refine Below.setCell ?_ (by first | exact Nat.le_refl _ | assumption) _))
              case rest =>
                obtain ⟨k, rfl, ⟨x, hk⟩, hbw⟩ := hcut
                have HO6 := Lib.hid (HO5.out.below hbw)
                have HX6 := Lib.hid (Below.row hbw HX5.out HX5.out.lt)
                have HK6 := Lib.hid (Below.row hbw HK5.out HK5.out.lt)
                have HJ6 := Lib.hid (Below.row hbw HJ5.out HJ5.out.lt)
                have HBW6 := Lib.hid (belowZ HBW5.out B3.out hbw)
                have kc := hk.cell
                have c1 := HK6.out.cell
                have q1 := HK6.out.frozen
                clear hk hbw yc
                go_wp2_with fail
                go_meet
                exact ⟨_, rfl, HX6.out.setCell_other _ _ NX1.out, HK6.out.setCell 1 _, HJ6.out.setCell_other _ _ (Ne.symm HNE.out), HO6.out.setBox (p := ⟨k1, 1, none⟩) (H.out.fresh (le3 HL1.out)) (H.out.apart (le3 HL1.out)) _, HBW6.out.setCell (p := ⟨k1, 1, none⟩) HL1.out _⟩
          · have n2 : 2 ≤ n := hn2 (Or.inr rfl)
            go_upto_region 25 with fail
            go_cut [20] (fun s20 wx => ∃ k : Nat, s20 = .pointer (some ⟨k, 0, none⟩) ∧ WordAt wx k ∧ Below w5.heap.size w5 wx)
            case first =>
                have ew : IntKind.u16.wrap ((n : Int) - 2) = ((n - 2 : Nat) : Int) := by rw [IntKind.wrap_u16]; omega
                have hT : mwordT m.tag (lin m.r.s1.v (IntKind.u16.wrap (m.r.ip + IntKind.u16.wrap ((n : Int) - 2)))) (lin m.r.s1.v (succW (IntKind.u16.wrap (m.r.ip + IntKind.u16.wrap ((n : Int) - 2))))) = false := by
                  rw [mwordT, ew, plainB_tag rfl hp (by omega)]; rfl
                clear ew
                have HTT := Lib.hid hT; clear hT
                have c26 : w5.cell? ⟨C.b, 26, none⟩ = some (.pointer (some ⟨C.mb, 0, none⟩)) := (HO5.out.row.cell 26).trans (mcell26 C m)
                have c24 : w5.cell? ⟨C.b, 24, none⟩ = some (.int .u16 m.r.ip) := (HO5.out.row.cell 24).trans (mcell24 C m)
                have sr := HO5.out.sees.r
                have sl := HO5.out.row.lt
                have f5 : ¬ C.b = w5.heap.size := Nat.ne_of_lt sl
                have f6 : ¬ w5.heap.size = C.b := Ne.symm (Nat.ne_of_lt sl)
                go_region_held3 (fun w' => regsIn w' C.b = some m.r.val ∧ w'.cell? ⟨C.b, 26, none⟩ = some (.pointer (some ⟨C.mb, 0, none⟩)) ∧ w'.cell? ⟨C.b, 24, none⟩ = some (.int .u16 m.r.ip)) ((refine ⟨?_, ?_, ?_⟩; (focus ((repeat (first | assumption | (rw [regsIn_drew]) | (rw [regsIn_alloc_past _ _ _ (by first | assumption | (simp; omega))]) | (refine (regsIn_setCell_other _ _ _ _ ?_).trans ?_; (focus (first | (simp; done) | (simp; omega) | (simp [*]; done)))))); done)); (focus (go_keep)); (focus (go_keep)))) (first | (go_at_call 64; refine (seg1_any m.r _).mono ?_; rintro e w8 ⟨rfl, hb⟩; have HB8 := Lib.hid (below_in (a := w5) (by (repeat (first | exact Below.refl _ _ | refine below_alloc ?_ _ | refine Below.drew ?_))) hb); have HO8 := Lib.hid (Own.below (C := C) (lv := lv) (m := m) (by (repeat (first | exact HO5.out | refine Own.alloc ?_ _ | refine Own.drew ?_))) hb); have q26 : w8.cell? ⟨C.b, 26, none⟩ = some (.pointer (some ⟨C.mb, 0, none⟩)) := (HO8.out.row.cell 26).trans (mcell26 C m); have q24 : w8.cell? ⟨C.b, 24, none⟩ = some (.int .u16 m.r.ip) := (HO8.out.row.cell 24).trans (mcell24 C m); have qr := HO8.out.sees.r; have ql := HO8.out.row.lt; have f1 : ¬ C.b = w8.heap.size := Nat.ne_of_lt ql; have f2 : ¬ w8.heap.size = C.b := Ne.symm (Nat.ne_of_lt ql); (try ((first | with_reducible have R8 := Below.row hb (row_d w5 #[.int .u16 0, .bool false] 24) (lt_d w5 _) | with_reducible have R8 := Below.row hb (row_e w5 #[.int .u16 0, .bool false] 24) (lt_e w5 _)); have rc8 := R8.cell; have rf8 := R8.frozen; have rl8 := R8.lt)); clear hb) | (go_at_call 63; refine (memWord_any C.mb C.bb C.tb m.mem m.tag _ (by (repeat (first | exact HO8.out.mem | refine MemAt.alloc ?_ _ | refine MemAt.drew ?_))) _ _ p0 p1 (wrap16_lo _) (wrap16_hi _)).mono ?_; rintro e w9 ⟨rfl, hb⟩; have HB9 := Lib.hid (below_in (a := w5) (by (repeat (first | exact Below.refl _ _ | exact HB8.out | refine below_alloc ?_ _ | refine Below.drew ?_))) hb); have HO9 := Lib.hid (Own.below (C := C) (lv := lv) (m := m) (by (repeat (first | exact HO8.out | refine Own.alloc ?_ _ | refine Own.drew ?_))) hb); have s26 : w9.cell? ⟨C.b, 26, none⟩ = some (.pointer (some ⟨C.mb, 0, none⟩)) := (HO9.out.row.cell 26).trans (mcell26 C m); have s24 : w9.cell? ⟨C.b, 24, none⟩ = some (.int .u16 m.r.ip) := (HO9.out.row.cell 24).trans (mcell24 C m); have s_r := HO9.out.sees.r; have s_l := HO9.out.row.lt; have f3 : ¬ C.b = w9.heap.size := Nat.ne_of_lt s_l; have f4 : ¬ w9.heap.size = C.b := Ne.symm (Nat.ne_of_lt s_l); (try ((with_reducible have R9 := Below.row hb R8 rl8); have rc9 := R9.cell; have rf9 := R9.frozen; have rl9 := R9.lt)); (try ((with_reducible have Q9 := Below.row hb (Row.new w8 #[.int .u16 0, .bool false] 24) (lt_n w8 _)); have qc9 := Q9.cell; have qf9 := Q9.frozen; have ql9 := Q9.lt)); clear hb))
                all_goals
                  go_wp2_with fail
                  go_meet
                  refine ⟨_, rfl, ?_, ?_⟩
                  · first | (with_reducible exact wordAt_new w9 _ _ HTT.out) | (with_reducible exact wordAt_set R9 _ _ HTT.out) | (with_reducible exact wordAt_set Q9 _ _ HTT.out)
                  · have l8 := HB8.out.size
                    have l9 := HB9.out.size
                    repeat (first | (with_reducible exact HB9.out) | (with_reducible refine below_alloc ?_ _) | (with_reducible refine Below.drew ?_) | (refine Below.setCell ?_ (by first | exact Nat.le_refl _ | assumption) _))
            case rest =>
                obtain ⟨k, rfl, ⟨x, hk⟩, hbw⟩ := hcut
                have HO6 := Lib.hid (HO5.out.below hbw)
                have HX6 := Lib.hid (Below.row hbw HX5.out HX5.out.lt)
                have HK6 := Lib.hid (Below.row hbw HK5.out HK5.out.lt)
                have HJ6 := Lib.hid (Below.row hbw HJ5.out HJ5.out.lt)
                have HBW6 := Lib.hid (belowZ HBW5.out B3.out hbw)
                have kc := hk.cell
                have c1 := HJ6.out.cell
                have q1 := HJ6.out.frozen
                clear hk hbw
                go_wp2_with fail
                go_meet
                exact ⟨_, rfl, HX6.out.setCell_other _ _ NX2.out, HK6.out.setCell_other _ _ HNE.out, HJ6.out.setCell 1 _, HO6.out.setBox (p := ⟨k2, 1, none⟩) (H.out.fresh (le3 HL2.out)) (H.out.apart (le3 HL2.out)) _, HBW6.out.setCell (p := ⟨k2, 1, none⟩) HL2.out _⟩
          · go_wp2_with fail
            go_meet
            exact ⟨_, rfl, HX5.out, HK5.out, HJ5.out, HO5.out, HBW5.out⟩
        case rest =>
          obtain ⟨x, rfl, hx, hk, hj, ho, hbw⟩ := hcut
          have HO7 := Lib.hid ho
          have HX7 := Lib.hid hx
          have HK7 := Lib.hid hk
          have HJ7 := Lib.hid hj
          have HBW7 := Lib.hid hbw
          have kc := hk.cell
          have jc := hj.cell
          clear ho hx hk hj hbw
          go_wp2_with fail
          refine (plainN_any _ _ _ _ HO7.out n (-1) (by omega) (by decide) (by decide)).mono ?_
          rw [hp]
          rintro e w8 ⟨rfl, hb⟩; dsimp only
          have HX8 := Lib.hid (Below.row hb HX7.out HX7.out.lt)
          have HK8 := Lib.hid (Below.row hb HK7.out HK7.out.lt)
          have HJ8 := Lib.hid (Below.row hb HJ7.out HJ7.out.lt)
          have HBW8 := Lib.hid (belowZ HBW7.out B3.out hb)
          clear hb kc jc
          have I8 := Below.row HBW8.out HI0.out (by omega)
          have T8 := Below.row HBW8.out HT0.out (by omega)
          have S8 := Below.row HBW8.out HS0.out (by omega)
          have HI8 := Lib.hid I8
          have HT8 := Lib.hid T8
          have HS8 := Lib.hid S8
          have B8 := Lib.hid (HB0.out.trans (HBW8.out.mono (by omega)))
          have l0 := HI0.out.lt
          have lw1 : w.heap.size + 1 + 1 + 1 < w1.heap.size := Nat.lt_of_lt_of_le HA0.out.lt HBW1.out.size
          have g1 := HL1.out
          have g2 := HL2.out
          have d1 : ¬ w1.heap.size = w.heap.size := by omega
          have d2 : ¬ w1.heap.size = w.heap.size + 1 := by omega
          have d3 : ¬ w1.heap.size = w.heap.size + 1 + 1 := by omega
          have d4 : ¬ k1 = w.heap.size := by omega
          have d5 : ¬ k1 = w.heap.size + 1 := by omega
          have d6 : ¬ k1 = w.heap.size + 1 + 1 := by omega
          have d7 : ¬ k2 = w.heap.size := by omega
          have d8 : ¬ k2 = w.heap.size + 1 := by omega
          have d9 : ¬ k2 = w.heap.size + 1 + 1 := by omega
          have e1 := Ne.symm d1
          have e2 := Ne.symm d2
          have e3 := Ne.symm d3
          have e4 := Ne.symm d4
          have e5 := Ne.symm d5
          have e6 := Ne.symm d6
          have e7 := Ne.symm d7
          have e8 := Ne.symm d8
          have e9 := Ne.symm d9
          have xc := HX8.out.cell
          have kc := HK8.out.cell
          have jc := HJ8.out.cell
          have ic := I8.cell
          have tc := T8.cell
          have sc := S8.cell
          have jf := I8.frozen
          have tf := T8.frozen
          have sf := S8.frozen
          clear I8 T8 S8 l0 lw1 g1 g2
          go_wp2_with fail
          go_region
          all_goals
            go_wp2_with fail
            have ri := row_inst i HI8.out
            have ti := row_inst_other i w.heap.size HT8.out (by omega)
            have si := row_inst_other i w.heap.size HS8.out (by omega)
            have bi := inst_below i w.heap.size B8.out (Nat.le_refl _)
            refine bodyPost_ret (results_fetch _ _ w.heap.size (w.heap.size + 1) (w.heap.size + 1 + 1) i n i.imm i.sel rfl rfl rfl rfl rfl ?_ ?_ ?_) rfl ⟨rfl, ?_⟩
            · exact ((((ri.setCell_other ⟨w.heap.size + 1, 0, none⟩ _ (by simp)).setCell_other ⟨w.heap.size + 1, 1, none⟩ _ (by simp)).setCell_other ⟨w.heap.size + 1 + 1, 0, none⟩ _ (by simp; omega)).setCell_other ⟨w.heap.size + 1 + 1, 1, none⟩ _ (by simp; omega)).drew
            · exact (((row_s2 ti).setCell_other ⟨w.heap.size + 1 + 1, 0, none⟩ _ (by simp)).setCell_other ⟨w.heap.size + 1 + 1, 1, none⟩ _ (by simp)).drew
            · exact (row_s2 ((si.setCell_other ⟨w.heap.size + 1, 0, none⟩ _ (by simp)).setCell_other ⟨w.heap.size + 1, 1, none⟩ _ (by simp))).drew
            · exact Below.drew ((((bi.setCell (p := ⟨w.heap.size + 1, 0, none⟩) (Nat.le_succ _) _).setCell (p := ⟨w.heap.size + 1, 1, none⟩) (Nat.le_succ _) _).setCell (p := ⟨w.heap.size + 1 + 1, 0, none⟩) (show w.heap.size ≤ w.heap.size + 1 + 1 by omega) _).setCell (p := ⟨w.heap.size + 1 + 1, 1, none⟩) (show w.heap.size ≤ w.heap.size + 1 + 1 by omega) _)
end Go.Proofs.YtcglkefaopgjeaaGreatDoor

/- Package flow: Is; package cpu: Step, of what stands there and is neither repeated nor goes elsewhere. -/
namespace Go.Proofs.YtcglkefaopgjeaaGreatDoor
set_option linter.unusedSimpArgs false
set_option linter.unusedVariables false
open Go.RowKit

def isFlow (n : Int) : Bool := n == 39 || n == 40 || n == 80 || n == 81 || n == 56 || n == 57 || n == 60 || n == 61 || n == 62 || n == 76 || n == 75 || n == 74 || n == 77 || (decide (17 ≤ n) && decide (n ≤ 32))
set_option maxRecDepth 100000 in
set_option maxHeartbeats 1600000 in
theorem isFlow_no (n : Int) (w : World) (h : isFlow n = false) : Calls Tryz.prog 73 #[.int .i64 n] w fun e w' => e = .returned (.bool false) ∧ w = w' := by
  unfold isFlow at h
  simp only [Bool.or_eq_false_iff] at h
  obtain ⟨⟨⟨⟨⟨⟨⟨⟨⟨⟨⟨⟨⟨a1, a2⟩, a3⟩, a4⟩, a5⟩, a6⟩, a7⟩, a8⟩, a9⟩, a10⟩, a11⟩, a12⟩, a13⟩, a14⟩ := h
  by_cases h17 : 17 ≤ n
  · have b1 : decide (17 ≤ n) = true := decide_eq_true h17
    rw [b1, Bool.true_and] at a14
    have b2 : ¬ n ≤ 32 := of_decide_eq_false a14
    clear b1 a14
    go_enter Tryz.func73, Tryz.ntmps73
    go_wp2
    go_ret
    exact ⟨rfl, rfl⟩
  · have b1 : decide (17 ≤ n) = false := decide_eq_false h17
    clear a14 h17
    go_enter Tryz.func73, Tryz.ntmps73
    go_wp2
    go_ret
    exact ⟨rfl, rfl⟩

def Mach.on (m : Mach) (n : Nat) : Mach := { m with r := { m.r with ip := IntKind.u16.wrap (m.r.ip + n) } }

set_option maxRecDepth 100000 in
set_option maxHeartbeats 3200000 in
theorem step_any (w : World) (C : Phys) (lv : Value) (m m' : Mach) (h : Own w C lv m) (h0 : m.state = 0) (i : Inst) (n : Nat) (ht : takeF m.code = some (i, n)) (hp : m.plainB (-1) n = true) (hn : n ≤ 65535) (r : IRow) (hr : instRow i.op i.reg = some r)
    (hw : i.wf) (hrep : repsOf r.name = 0) (hfl : isFlow r.name = false)
    (hdo : ∀ (w : World) (lv : Value), Own w C lv (m.on n) → Calls Tryz.prog 75 #[.pointer (some ⟨C.b, 0, none⟩), i.val, r.val, V.val ⟨i.imm, false⟩] w fun e w' => e = .returned (.tuple #[]) ∧ After C lv w m' w') :
    Calls Tryz.prog 25 #[.pointer (some ⟨C.b, 0, none⟩)] w fun e w' => e = .returned (.bool true) ∧ After C lv w m' w' := by
  have hb0 : (m.state != 0) = false := by simp [h0]
  have HO0 := Lib.hid h
  have HDO := Lib.hid hdo
  have HR := Lib.hid hr
  have HT := Lib.hid ht
  have HP := Lib.hid hp
  have HREP := Lib.hid hrep
  have HFL := Lib.hid hfl
  clear h h0 hdo hr ht hp hrep hfl
  obtain ⟨rn, ra, rb, rm⟩ := r
  have ew : IntKind.u16.wrap (n : Int) = (n : Int) := by rw [IntKind.wrap_u16]; omega
  go_enter Tryz.func25, Tryz.ntmps25
  go_wp2_with fail
  refine (state_any _ _ _ _ HO0.out).mono ?_
  rintro e w' ⟨rfl, rfl⟩; dsimp only
  go_wp2_with fail
  refine (fetch_ok _ _ _ _ HO0.out i n HT.out HP.out).mono ?_
  rintro e w1 ⟨rfl, hb⟩; dsimp only
  have HO1 := Lib.hid (((HO0.out.below hb).alloc (.cells (instC i) 30)).alloc (.cells #[.int .u16 i.imm, .bool false] 24) |>.alloc (.cells #[.int .u16 i.sel, .bool false] 24))
  have HA1 := Lib.hid (((((Acc.refl C lv w).below hb).alloc (.cells (instC i) 30)).alloc (.cells #[.int .u16 i.imm, .bool false] 24)).alloc (.cells #[.int .u16 i.sel, .bool false] 24))
  have HI1 := Lib.hid (((Row.new w1 (instC i) 30).alloc (.cells #[.int .u16 i.imm, .bool false] 24)).alloc (.cells #[.int .u16 i.sel, .bool false] 24))
  have HV1 := Lib.hid ((Row.new' (w := w1.alloc (.cells (instC i) 30)) (n := w1.heap.size + 1) (cs := #[.int .u16 i.imm, .bool false]) (t := 24) (by simp)).alloc (.cells #[.int .u16 i.sel, .bool false] 24))
  have HS1 := Lib.hid (Row.new' (w := (w1.alloc (.cells (instC i) 30)).alloc (.cells #[.int .u16 i.imm, .bool false] 24)) (n := w1.heap.size + 1 + 1) (cs := #[.int .u16 i.sel, .bool false]) (t := 24) (by simp))
  have HB := Lib.hid (show C.b < w1.heap.size from Nat.lt_of_lt_of_le HO0.out.row.lt hb.size)
  clear hb
  go_wp2_with fail
  generalize ((w1.alloc (.cells (instC i) 30)).alloc (.cells #[.int .u16 i.imm, .bool false] 24)).alloc (.cells #[.int .u16 i.sel, .bool false] 24) = W1 at HO1 HA1 HI1 HV1 HS1 ⊢
  refine (instRow_any i _ hw.op.1 hw.op.2 hw.reg.1 hw.reg.2).mono ?_
  rw [HR.out, rowV_some]
  rintro e w2 ⟨rfl, hb⟩; dsimp only
  have HO2 := Lib.hid ((HO1.out.below hb).alloc (.cells #[.int .i64 rn, .int .i64 ra, .int .i64 rb, .bool rm] 47))
  have HA2 := Lib.hid ((HA1.out.below hb).alloc (.cells #[.int .i64 rn, .int .i64 ra, .int .i64 rb, .bool rm] 47))
  have HI2 := Lib.hid ((Below.row hb HI1.out HI1.out.lt).alloc (.cells #[.int .i64 rn, .int .i64 ra, .int .i64 rb, .bool rm] 47))
  have HV2 := Lib.hid ((Below.row hb HV1.out HV1.out.lt).alloc (.cells #[.int .i64 rn, .int .i64 ra, .int .i64 rb, .bool rm] 47))
  have HS2 := Lib.hid ((Below.row hb HS1.out HS1.out.lt).alloc (.cells #[.int .i64 rn, .int .i64 ra, .int .i64 rb, .bool rm] 47))
  have HR2 := Lib.hid (Row.new w2 #[.int .i64 rn, .int .i64 ra, .int .i64 rb, .bool rm] 47)
  have L2 := Lib.hid (Nat.lt_of_lt_of_le (Below.row hb HI1.out HI1.out.lt).lt (Nat.le_refl _))
  clear hb
  go_upto_region 7 with fail
  generalize w2.alloc (.cells #[.int .i64 rn, .int .i64 ra, .int .i64 rb, .bool rm] 47) = W2 at HO2 HA2 HI2 HV2 HS2 HR2 ⊢
  have sc := HO2.out.sees.c
  have sf := HO2.out.sees.f
  have sl := HO2.out.row.lt
  go_upto_region 10 with fail
  have ne1 : w1.heap.size ≠ C.b := Nat.ne_of_gt HB.out
  have ne2 : w1.heap.size + 1 ≠ C.b := by have := HB.out; omega
  have ne3 : w2.heap.size ≠ C.b := by have := HB.out; have := L2.out; omega
  have HO3 := Lib.hid (show Own _ C lv (m.on n) from HO2.out.setIP (IntKind.u16.wrap (m.r.ip + n)) (wrap16_lo _) (wrap16_hi _))
  have HA3 := Lib.hid (HA2.out.setB 24 (.int .u16 (IntKind.u16.wrap (m.r.ip + n))))
  have hi3 := HI2.out.setCell_other ⟨C.b, 24, none⟩ (.int .u16 (IntKind.u16.wrap (m.r.ip + n))) ne1
  have hv3 := HV2.out.setCell_other ⟨C.b, 24, none⟩ (.int .u16 (IntKind.u16.wrap (m.r.ip + n))) ne2
  have hr3 := HR2.out.setCell_other ⟨C.b, 24, none⟩ (.int .u16 (IntKind.u16.wrap (m.r.ip + n))) ne3
  clear sc sf sl ne1 ne2 ne3
  generalize W2.setCell ⟨C.b, 24, none⟩ (.int .u16 (IntKind.u16.wrap (m.r.ip + n))) = W3 at HO3 HA3 hi3 hv3 hr3 ⊢
  have ci := hi3.cell
  have cv := hv3.cell
  have cr := hr3.cell
  clear hi3 hv3 hr3
  go_wp2_with fail
  refine (reps_any rn _).mono ?_
  rw [HREP.out]
  rintro e w' ⟨rfl, rfl⟩; dsimp only
  go_wp2_with fail
  refine (isFlow_no rn _ HFL.out).mono ?_
  rintro e w' ⟨rfl, rfl⟩; dsimp only
  go_wp2_with fail
  refine (HDO.out _ _ HO3.out).mono ?_
  rintro e w4 ⟨rfl, lv4, h4, f4, k4⟩; dsimp only
  have HF := Lib.hid (After.mk h4 (HA3.out.trans ⟨f4, k4⟩))
  clear h4 f4 k4 ci cv cr
  go_wp2_with fail
  go_ret
  exact ⟨rfl, HF.out⟩

/-- A machine that does not run. -/
theorem step_idle (w : World) (C : Phys) (lv : Value) (m : Mach) (h : Own w C lv m) (h0 : m.state ≠ 0) :
    Calls Tryz.prog 25 #[.pointer (some ⟨C.b, 0, none⟩)] w fun e w' => e = .returned (.bool false) ∧ w = w' := by
  have hb0 : (m.state != 0) = true := by simp [h0]
  have HO0 := Lib.hid h
  clear h h0
  go_enter Tryz.func25, Tryz.ntmps25
  go_wp2_with fail
  refine (state_any _ _ _ _ HO0.out).mono ?_
  rintro e w' ⟨rfl, rfl⟩; dsimp only
  go_wp2_with fail
  go_ret
  exact ⟨rfl, rfl⟩

/-- So many steps, one behind the other; the last one may not run any more. -/
def StepOk (C : Phys) (m m' : Mach) : Prop := ∀ (w : World) (lv : Value), Own w C lv m → Calls Tryz.prog 25 #[.pointer (some ⟨C.b, 0, none⟩)] w fun e w' => e = .returned (.bool true) ∧ After C lv w m' w'
def RunIn (C : Phys) (lv : Value) (w : World) (ms : Nat → Mach) (k : Nat) (wr : World) : Prop := ∃ lv', Own wr C lv' (ms k) ∧ Acc C lv w lv' wr

set_option maxRecDepth 100000 in
set_option maxHeartbeats 1600000 in
theorem run_any (w : World) (C : Phys) (lv : Value) (ms : Nat → Mach) (n N : Nat) (hN : N ≤ 100000) (hn : n ≤ N) (h : Own w C lv (ms 0)) (hs : ∀ k, k < n → StepOk C (ms k) (ms (k + 1))) (hl : n = N ∨ (ms n).state ≠ 0) :
    Calls Tryz.prog 31 #[.pointer (some ⟨C.b, 0, none⟩), .int .i64 N] w fun e w' => e = .returned (.int .i64 n) ∧ After C lv w (ms n) w' := by
  have HO0 := Lib.hid h
  have HS := Lib.hid hs
  have HL := Lib.hid hl
  clear h hs hl
  have b0 : (0 : Int) ≤ (N : Int) := by omega
  have b1 : (N : Int) ≤ 100000 := by omega
  go_enter Tryz.func31, Tryz.ntmps31
  go_wp2_with fail
  go_loopw [10, 5] (fun i _ wr => ∃ k : Nat, k ≤ n ∧ i = .int .i64 k ∧ RunIn C lv w ms k wr) (fun i _ _ => N - (intOf i).toNat)
  case atStart => exact ⟨0, by omega, rfl, lv, HO0.out, Acc.refl _ _ _⟩
  case round =>
    obtain ⟨k, hk, rfl, lv1, o1, a1⟩ := hrel
    have HO1 := Lib.hid o1
    have HA1 := Lib.hid a1
    clear o1 a1
    by_cases hlt : k < n
    · have hi : ((k : Nat) : Int) < ((N : Nat) : Int) := by omega
      go_wp2_with fail
      refine (HS.out k hlt _ _ HO1.out).mono ?_
      rintro e w2 ⟨rfl, lv2, h2, f2, k2⟩; dsimp only
      have HO2 := Lib.hid h2
      have HA2 := Lib.hid (HA1.out.trans ⟨f2, k2⟩)
      clear h2 f2 k2
      go_wp2_with fail
      exact ⟨⟨k + 1, by omega, by go_num, lv2, HO2.out, HA2.out⟩, by simp [intOf]; omega⟩
    · obtain rfl : k = n := by omega
      by_cases hN2 : k = N
      · subst hN2
        have hi : ¬ ((k : Nat) : Int) < ((k : Nat) : Int) := by omega
        go_wp2_with fail
        go_ret
        exact ⟨rfl, After.mk HO1.out HA1.out⟩
      · have hi : ((k : Nat) : Int) < ((N : Nat) : Int) := by omega
        have hst : (ms k).state ≠ 0 := HL.out.resolve_left hN2
        go_wp2_with fail
        refine (step_idle _ _ _ _ HO1.out hst).mono ?_
        rintro e w2 ⟨rfl, rfl⟩; dsimp only
        go_wp2_with fail
        go_ret
        exact ⟨rfl, After.mk HO1.out HA1.out⟩

set_option maxRecDepth 100000 in
set_option maxHeartbeats 1600000 in
/-- Fewer than one step. -/
theorem run_none (w : World) (a : Value) (N : Int) (hN : N ≤ 0) :
    Calls Tryz.prog 31 #[a, .int .i64 N] w fun e w' => e = .returned (.int .i64 0) ∧ w = w' := by
  by_cases h0 : 0 ≤ N
  · obtain rfl : N = 0 := by omega
    clear hN h0
    go_enter Tryz.func31, Tryz.ntmps31
    go_wp2_with fail
    go_loopw [10] (fun i wr => i = .int .i64 0 ∧ w = wr) (fun i _ => 0)
    case atStart => exact ⟨rfl, rfl⟩
    case round =>
      obtain ⟨rfl, rfl⟩ := hrel
      go_wp2_with fail
      go_ret
      exact ⟨rfl, rfl⟩
  · clear hN
    go_enter Tryz.func31, Tryz.ntmps31
    go_wp2_with fail
    go_loopw [10] (fun i wr => i = .int .i64 0 ∧ w = wr) (fun i _ => 0)
    case atStart => exact ⟨rfl, rfl⟩
    case round =>
      obtain ⟨rfl, rfl⟩ := hrel
      go_wp2_with fail
      go_ret
      exact ⟨rfl, rfl⟩
end Go.Proofs.YtcglkefaopgjeaaGreatDoor

/- Code bytes in a machine's memory, what is taken of them, and what the machine of a Cpu law is: plain laws, no walk. -/
namespace Go.Proofs.YtcglkefaopgjeaaGreatDoor
set_option linter.unusedSimpArgs false
set_option linter.unusedVariables false
open Go.RowKit

/-- Bytes at CS:IP. -/
def codeMem (ip : Int) (bs : List Int) (a : Nat) : Int := if 4096 ≤ a ∧ a < 69632 then bs.getD (((a : Int) - 4096 - ip) % 65536).toNat 0 else 0
theorem lin256 (off : Int) (h0 : 0 ≤ off) (h1 : off ≤ 65535) : (lin 256 off : Int) = 4096 + off := by unfold lin; omega
theorem codeMem_nil (ip : Int) : codeMem ip [] = fun _ => 0 := by
  funext a; unfold codeMem; split <;> rfl
theorem codeMem_step (ip : Int) (bs : List Int) (k : Nat) (hk : k < bs.length) (hk2 : k < 65536) :
    upd (codeMem ip (bs.take k)) (lin 256 (IntKind.u16.wrap (ip + k))) (bs.getD k 0) = codeMem ip (bs.take (k + 1)) := by
  have hl := lin256 (IntKind.u16.wrap (ip + k)) (wrap16_lo _) (wrap16_hi _)
  rw [IntKind.wrap_u16] at hl
  funext a
  unfold upd codeMem
  by_cases e : a = lin 256 (IntKind.u16.wrap (ip + k))
  · rw [if_pos e, IntKind.wrap_u16] at *
    rw [if_pos (by omega), show (((a : Int) - 4096 - ip) % 65536).toNat = k by omega]
    simp only [List.getD_eq_getElem?_getD, List.getElem?_take]
    rw [if_pos (by omega)]
  · rw [if_neg e]
    rw [IntKind.wrap_u16] at e
    split
    · have hne : (((a : Int) - 4096 - ip) % 65536).toNat ≠ k := by omega
      simp only [List.getD_eq_getElem?_getD, List.getElem?_take]
      by_cases h2 : (((a : Int) - 4096 - ip) % 65536).toNat < k
      · rw [if_pos h2, if_pos (by omega)]
      · rw [if_neg h2, if_neg (by omega)]
    · rfl

/-- What a Cpu law's machine has of its own, but for registers, bytes and what happened. -/
structure Sane (m : Mach) : Prop where
  base : m.base = 4096
  size : m.size = 327680
  state : m.state = 0
  tag : m.tag = fun _ => 0
  s1 : m.r.s1 = ⟨256, true⟩
theorem own1_sane {m : Mach} (h : Sane m) (seg : V) (off : Int) (ht : seg.t = true) (h0 : 256 ≤ seg.v) (h1 : seg.v ≤ 12544) (o0 : 0 ≤ off) (o1 : off ≤ 65535) : m.own1 seg off = true := by
  unfold Mach.own1
  rw [ht, h.base, h.size, Bool.true_and]
  refine decide_eq_true ?_
  unfold lin
  omega
theorem owns_sane {m : Mach} (h : Sane m) (seg : V) (off : Int) (ht : seg.t = true) (h0 : 256 ≤ seg.v) (h1 : seg.v ≤ 12544) (n : Nat) : m.owns seg off n = true := by
  induction n with
  | zero => rfl
  | succ n ih => rw [Mach.owns, ih, Bool.true_and]; exact own1_sane h seg _ ht h0 h1 (wrap16_lo _) (wrap16_hi _)
theorem plainB_sane {m : Mach} (h : Sane m) (but : Int) (n : Nat) : m.plainB but n = true := by
  induction n with
  | zero => rfl
  | succ n ih =>
    rw [Mach.plainB, ih, Bool.true_and, Mach.oneB, owns_sane h _ _ (by rw [h.s1]) (by rw [h.s1]; decide) (by rw [h.s1]; decide), h.tag]
    rfl

/-- The bytes behind IP begin so. -/
def CodeIs (m : Mach) (bs : List Int) : Prop := ∀ k, k < bs.length → m.code k = bs.getD k 0
theorem codeIs_on {m m' : Mach} {bs : List Int} (h : CodeIs m bs) (n : Nat) (h1 : m'.r.s1 = m.r.s1) (h2 : m'.r.ip = IntKind.u16.wrap (m.r.ip + n)) (h3 : ∀ k, m'.mem (lin m.r.s1.v (IntKind.u16.wrap (m.r.ip + (n + k : Nat)))) = m.code (n + k)) : CodeIs m' (bs.drop n) := by
  intro k hk
  have hk' : n + k < bs.length := by simp at hk; omega
  have e := h (n + k) hk'
  rw [← h3] at e
  unfold Mach.code
  rw [h1, h2, show IntKind.u16.wrap (IntKind.u16.wrap (m.r.ip + n) + k) = IntKind.u16.wrap (m.r.ip + (n + k : Nat)) by simp only [IntKind.wrap_u16]; omega, e]
  simp [List.getD_eq_getElem?_getD]

theorem take_one (bs : Nat → Int) (op : Int) (h : bs 0 = op) (r : IRow) (h1 : isPre op = false) (h2 : twoOf op = false) (h3 : isaOf op 0 = some r) (h4 : immsOf r = 0) (h5 : mayB (opI op false 0 0) = true) : takeF bs = some (opI op false 0 0, 1) := by
  have ha : aheadF bs 4 0 false 0 0 = some (op, 1, false, 0, 0) := by rw [aheadF, h, if_pos h1]
  have hb : behindF bs 1 (opI op false 0 0) r = (opI op false 0 0, 1) := by
    unfold behindF
    rw [if_neg (by omega), if_neg (by omega), if_neg (by omega)]
  unfold takeF
  rw [ha]
  dsimp only
  rw [twoF, h2, if_neg (by decide), restF]
  dsimp only
  rw [h3]
  dsimp only
  rw [hb]
  dsimp only
  rw [h5, if_pos rfl]
theorem take_byte (bs : Nat → Int) (op : Int) (h : bs 0 = op) (r : IRow) (h1 : isPre op = false) (h2 : twoOf op = false) (h3 : isaOf op 0 = some r) (h4 : immsOf r = 1) (h6 : ¬ (r.a = 9 ∨ r.b = 8)) (h5 : mayB { opI op false 0 0 with imm := bs 1 } = true) : takeF bs = some ({ opI op false 0 0 with imm := bs 1 }, 2) := by
  have ha : aheadF bs 4 0 false 0 0 = some (op, 1, false, 0, 0) := by rw [aheadF, h, if_pos h1]
  have hb : behindF bs 1 (opI op false 0 0) r = ({ opI op false 0 0 with imm := bs 1 }, 2) := by
    unfold behindF
    rw [if_pos h4, if_neg h6]
  unfold takeF
  rw [ha]
  dsimp only
  rw [twoF, h2, if_neg (by decide), restF]
  dsimp only
  rw [h3]
  dsimp only
  rw [hb]
  dsimp only
  rw [h5, if_pos rfl]
theorem take_word (bs : Nat → Int) (op : Int) (h : bs 0 = op) (r : IRow) (h1 : isPre op = false) (h2 : twoOf op = false) (h3 : isaOf op 0 = some r) (h4 : immsOf r = 2) (h5 : mayB { opI op false 0 0 with imm := bs 1 + 256 * bs 2 } = true) : takeF bs = some ({ opI op false 0 0 with imm := bs 1 + 256 * bs 2 }, 3) := by
  have ha : aheadF bs 4 0 false 0 0 = some (op, 1, false, 0, 0) := by rw [aheadF, h, if_pos h1]
  have hb : behindF bs 1 (opI op false 0 0) r = ({ opI op false 0 0 with imm := bs 1 + 256 * bs 2 }, 3) := by
    unfold behindF
    rw [if_neg (by omega), if_pos h4]
  unfold takeF
  rw [ha]
  dsimp only
  rw [twoF, h2, if_neg (by decide), restF]
  dsimp only
  rw [h3]
  dsimp only
  rw [hb]
  dsimp only
  rw [h5, if_pos rfl]
theorem take_none (bs : Nat → Int) (op : Int) (h : bs 0 = op) (h1 : isPre op = false) (h2 : twoOf op = false) (h3 : isaOf op 0 = none) : takeF bs = none := by
  have ha : aheadF bs 4 0 false 0 0 = some (op, 1, false, 0, 0) := by rw [aheadF, h, if_pos h1]
  unfold takeF
  rw [ha]
  dsimp only
  rw [twoF, h2, if_neg (by decide), restF]
  dsimp only
  rw [h3]

/-- One byte, and no more: what is done without an operand behind it. -/
def aloneB (op : Int) : Bool := !isPre op && !twoOf op && (match isaOf op 0 with | some r => immsOf r == 0 | none => false) && mayB (opI op false 0 0)
theorem take_alone (bs : Nat → Int) (op : Int) (h : bs 0 = op) (ho : aloneB op = true) : takeF bs = some (opI op false 0 0, 1) := by
  unfold aloneB at ho
  simp only [Bool.and_eq_true, Bool.not_eq_true'] at ho
  cases hi : isaOf op 0 with
  | none => rw [hi] at ho; simp at ho
  | some r =>
    rw [hi] at ho
    exact take_one bs op h r ho.1.1.1 ho.1.1.2 hi (by simpa using ho.1.2) ho.2
end Go.Proofs.YtcglkefaopgjeaaGreatDoor

/- hansomlaw16: begin and set. -/
namespace Go.Proofs.YtcglkefaopgjeaaGreatDoor
set_option linter.unusedSimpArgs false
set_option linter.unusedVariables false
open Go.RowKit

def setG (r : Regs) : Nat → Regs
  | 0 => r
  | 1 => { r with g0 := ⟨r.g0.v, false⟩ }
  | 2 => { r with g0 := ⟨r.g0.v, false⟩, g1 := ⟨r.g1.v, false⟩ }
  | 3 => { r with g0 := ⟨r.g0.v, false⟩, g1 := ⟨r.g1.v, false⟩, g2 := ⟨r.g2.v, false⟩ }
  | 4 => { r with g0 := ⟨r.g0.v, false⟩, g1 := ⟨r.g1.v, false⟩, g2 := ⟨r.g2.v, false⟩, g3 := ⟨r.g3.v, false⟩ }
  | 5 => { r with g0 := ⟨r.g0.v, false⟩, g1 := ⟨r.g1.v, false⟩, g2 := ⟨r.g2.v, false⟩, g3 := ⟨r.g3.v, false⟩, g4 := ⟨r.g4.v, false⟩ }
  | 6 => { r with g0 := ⟨r.g0.v, false⟩, g1 := ⟨r.g1.v, false⟩, g2 := ⟨r.g2.v, false⟩, g3 := ⟨r.g3.v, false⟩, g4 := ⟨r.g4.v, false⟩, g5 := ⟨r.g5.v, false⟩ }
  | 7 => { r with g0 := ⟨r.g0.v, false⟩, g1 := ⟨r.g1.v, false⟩, g2 := ⟨r.g2.v, false⟩, g3 := ⟨r.g3.v, false⟩, g4 := ⟨r.g4.v, false⟩, g5 := ⟨r.g5.v, false⟩, g6 := ⟨r.g6.v, false⟩ }
  | _ => { r with g0 := ⟨r.g0.v, false⟩, g1 := ⟨r.g1.v, false⟩, g2 := ⟨r.g2.v, false⟩, g3 := ⟨r.g3.v, false⟩, g4 := ⟨r.g4.v, false⟩, g5 := ⟨r.g5.v, false⟩, g6 := ⟨r.g6.v, false⟩, g7 := ⟨r.g7.v, false⟩ }

/-- A machine that a call has made, all of whose blocks are its own. -/
def Fresh (w : World) (m : Mach) (e : Ending) (w' : World) : Prop :=
  ∃ C : Phys, ∃ lv : Value, e = .returned (.pointer (some ⟨C.b, 0, none⟩)) ∧ Own w' C lv m ∧ Below w.heap.size w w' ∧ (∀ k, k < w.heap.size → ¬ C.own lv k)

theorem below_of {B : Nat} {w w3 wr w5 : World} {own1 own2 : Nat → Prop} (h : Below B w w3) (f1 : Fr own1 w3 wr) (f2 : Fr own2 wr w5) (h1 : ∀ k, k < B → ¬ own1 k) (h2 : ∀ k, k < B → ¬ own2 k) (hB : B < w3.heap.size) : Below B w w5 :=
  ⟨f2.os.trans (f1.os.trans h.os), f2.tape.trans (f1.tape.trans h.tape), f2.output.trans (f1.output.trans h.output), Nat.le_trans h.size (Nat.le_trans f1.size f2.size),
    fun k hk => ((f2.block k (by have := f1.size; omega) (h2 k hk)).trans (f1.block k (by omega) (h1 k hk))).trans (h.block k hk)⟩
theorem own_lv {C : Phys} {lv lv1 : Value} {B N : Nat} (h : ∀ k, k < B → ¬ C.own lv k) (hk : ∀ k, lv1.ownBlock = some k → lv.ownBlock = some k ∨ N ≤ k) (hN : B ≤ N) : ∀ k, k < B → ¬ C.own lv1 k := by
  intro k hkB
  rintro (e | e | e | e | e)
  · exact h k hkB (Or.inl e)
  · exact h k hkB (Or.inr (Or.inl e))
  · exact h k hkB (Or.inr (Or.inr (Or.inl e)))
  · exact h k hkB (Or.inr (Or.inr (Or.inr (Or.inl e))))
  · rcases hk k e with e | e
    · exact h k hkB (Or.inr (Or.inr (Or.inr (Or.inr e))))
    · omega
theorem fresh_own {w w1 w2 : World} {C : Phys} {lv lv1 : Value} (hb : Below w.heap.size w w1) (hf : Acc C lv w1 lv1 w2) (hn : ∀ k, k < w.heap.size → ¬ C.own lv k) : Below w.heap.size w w2 :=
  ⟨hf.f.os.trans hb.os, hf.f.tape.trans hb.tape, hf.f.output.trans hb.output, Nat.le_trans hb.size hf.f.size, fun k hk => (hf.f.block k (Nat.lt_of_lt_of_le hk hb.size) (hn k hk)).trans (hb.block k hk)⟩
theorem news2 (w1 : World) (x y : Value) (t : TypeId) : ∀ j u, [x, y][j]? = some u → (w1.alloc (.cells #[x, y] t)).cell? ((⟨w1.heap.size, 0, none⟩ : Addr).add j) = some u := by
  intro j u h
  match j with
  | 0 =>
    have e : (⟨w1.heap.size, 0, none⟩ : Addr).add 0 = ⟨w1.heap.size, 0, none⟩ := rfl
    rw [e, (Row.new w1 #[x, y] t).cell]
    exact h
  | 1 =>
    have e : (⟨w1.heap.size, 0, none⟩ : Addr).add 1 = ⟨w1.heap.size, 1, none⟩ := rfl
    rw [e, (Row.new w1 #[x, y] t).cell]
    exact h
  | j + 2 => simp at h

set_option maxHeartbeats 400000 in
theorem set_any (w : World) (C : Phys) (lv : Value) (m : Mach) (h : Own w C lv m) (r : Regs) (hr : r.wf) :
    Calls Tryz.prog 54 #[.pointer (some ⟨C.b, 0, none⟩), r.val] w fun e w' => e = .returned (.tuple #[]) ∧ After C lv w (m.setR r) w' := by
  have HO0 := Lib.hid h; have HA0 := Lib.hid (Acc.refl C lv w); have sc := HO0.out.sees.c; have sf := HO0.out.sees.f; have sr := HO0.out.sees.r; have ss := HO0.out.sees.s; have sl := HO0.out.sees.l; clear h
  go_enter Tryz.func54, Tryz.ntmps54
  go_wp2_with fail
  go_end0
  exact ⟨rfl, After.mk ((HO0.out.alloc _).putR r hr) ((HA0.out.alloc _).putR r)⟩

def begR (r : Regs) : Regs := { g0 := ⟨r.g0.v, false⟩, g1 := ⟨r.g1.v, false⟩, g2 := ⟨r.g2.v, false⟩, g3 := ⟨r.g3.v, false⟩, g4 := ⟨r.g4.v, false⟩, g5 := ⟨r.g5.v, false⟩, g6 := ⟨r.g6.v, false⟩, g7 := ⟨r.g7.v, false⟩, s0 := ⟨8448, true⟩, s1 := ⟨256, true⟩, s2 := ⟨12544, true⟩, s3 := ⟨4352, true⟩, ip := r.ip, f := andW r.f 4053 }
theorem begR_wf {r : Regs} (h : r.wf) : (begR r).wf := by
  have z0 : V.wf ⟨8448, true⟩ := ⟨by decide, by decide⟩
  have z1 : V.wf ⟨256, true⟩ := ⟨by decide, by decide⟩
  have z2 : V.wf ⟨12544, true⟩ := ⟨by decide, by decide⟩
  have z3 : V.wf ⟨4352, true⟩ := ⟨by decide, by decide⟩
  exact ⟨h.g0, h.g1, h.g2, h.g3, h.g4, h.g5, h.g6, h.g7, z0, z1, z2, z3, h.ip, ⟨and_lo _ _, and_hi _ _⟩⟩
theorem begR_cells (r : Regs) : ((((((((((setG r 8).cells.setIfInBounds 25 (.int .u16 (andW r.f 4053))).setIfInBounds 16 (.int .u16 8448)).setIfInBounds 17 (.bool true)).setIfInBounds 18 (.int .u16 256)).setIfInBounds 19 (.bool true)).setIfInBounds 20 (.int .u16 12544)).setIfInBounds 21 (.bool true)).setIfInBounds 22 (.int .u16 4352)).setIfInBounds 23 (.bool true)) = (begR r).cells := by kernel_rfl
/-- The machine that begin makes. -/
def begun (r : Regs) (bs : List Int) : Mach := ⟨begR r, 4096, 327680, 0, codeMem r.ip bs, fun _ => 0, [77, 300], 0, []⟩
theorem setG8 (r : Regs) : setG r 8 = ⟨⟨r.g0.v, false⟩, ⟨r.g1.v, false⟩, ⟨r.g2.v, false⟩, ⟨r.g3.v, false⟩, ⟨r.g4.v, false⟩, ⟨r.g5.v, false⟩, ⟨r.g6.v, false⟩, ⟨r.g7.v, false⟩, r.s0, r.s1, r.s2, r.s3, r.ip, r.f⟩ := rfl

/-- What begin knows while it lays the bytes. -/
def Laying (w wa : World) (C : Phys) (lv : Value) (r : Regs) (bs : List Int) (k : Nat) (wr : World) : Prop :=
  ∃ lv', Own wr C lv' ⟨begR r, 4096, 327680, 0, codeMem r.ip (bs.take k), fun _ => 0, [77, 300], 0, []⟩ ∧ Acc C lv wa lv' wr ∧ Row wr w.heap.size (begR r).cells 28

set_option maxRecDepth 100000 in
set_option maxHeartbeats 1600000 in
theorem begin_any (w : World) (r : Regs) (hr : r.wf) (g : Nat) (cap : Nat) (bs : List Int) (hg : g < w.heap.size) (hby : ∀ k, k < bs.length → w.cell? ⟨g, k, none⟩ = some (.int .u8 (bs.getD k 0))) (hwf : ∀ k, 0 ≤ bs.getD k 0 ∧ bs.getD k 0 ≤ 255) (hl : bs.length ≤ 64) :
    Calls Tryz.prog 16 #[r.val, .slice (some ⟨g, 0, none⟩) bs.length cap] w (Fresh w (begun r bs)) := by
  have HBY := Lib.hid hby
  have HWF := Lib.hid hwf
  clear hby hwf
  go_enter Tryz.func16, Tryz.ntmps16
  go_wp2_with fail
  refine (memNew_any _).mono ?_; rintro e w1 ⟨mb, bb, tb, rfl, hm, hb, k1, k2, k3⟩; dsimp only
  rw [World.size_alloc] at k1 k2 k3
  have HM := Lib.hid hm
  have hb1 : Below (w.heap.size + 1) (w.alloc (.cells r.cells 28)) w1 := by simpa using hb
  have HX := Lib.hid (Below.row hb1 (Row.new w r.cells 28) (by omega))
  have HB := Lib.hid (((Below.refl w.heap.size w).alloc (Nat.le_refl _) (.cells r.cells 28)).trans (hb1.mono (by omega)))
  clear hb hb1 hm
  have sz1 : w.heap.size < w1.heap.size := HX.out.lt
  go_wp2_with fail
  refine (worldNew_some _ ⟨w1.heap.size, 0, none⟩ 2 [77, 300] (news2 w1 _ _ _) (by decide)).mono ?_
  rintro e w2 ⟨p, rfl, hw, hb2, q1, q2, q3, q4⟩; dsimp only
  rw [World.size_alloc] at q1 q3
  have hbb : Below w1.heap.size w1 w2 := ((Below.refl w1.heap.size w1).alloc (Nat.le_refl _) _).trans (hb2.mono (by simp))
  have HM2 := Lib.hid (HM.out.below hbb)
  have HX2 := Lib.hid (Below.row hbb HX.out HX.out.lt)
  have HB2 := Lib.hid (HB.out.trans (hbb.mono (by omega)))
  have HW := Lib.hid hw
  have Q3 := Lib.hid q3
  have m1 := HM.out.r.lt
  have m2 := HM.out.b.lt
  have m3 := HM.out.t.lt
  have hd4 : ∀ g, p.ra = some g → g ≠ mb ∧ g ≠ bb ∧ g ≠ tb := fun g hg => by have := q3 g hg; omega
  have D4 := Lib.hid hd4
  have Q2 := Lib.hid q2
  have Q4 := Lib.hid q4
  clear hbb hw hb2 q2 q3 q4 hd4
  go_wp2_with fail
  refine (coreNew_any _ mb bb tb _ _ HM2.out p [77, 300] HW.out Q2.out Q4.out (by omega) (by omega) (by omega) D4.out 256 327680 (by decide) (by decide) (by decide) (by decide)).mono ?_
  rintro e w3 ⟨C, rfl, ho, hb3, c1, c2, c3, c4, c5, c6⟩; dsimp only
  have HO := Lib.hid ho
  have hx3 : Row w3 w.heap.size r.cells 28 := Below.row hb3 HX2.out HX2.out.lt
  have HX3 := Lib.hid hx3
  have HB3 := Lib.hid (HB2.out.trans (hb3.mono HB2.out.size))
  have n1 : w.heap.size ≠ C.b := by have := HX2.out.lt; omega
  have n2 : w.heap.size ≠ C.mb := by omega
  have n3 : w.heap.size ≠ C.bb := by omega
  have n4 : w.heap.size ≠ C.tb := by omega
  have n5 : w.heap.size ≠ C.wb := by omega
  have n6 : ∀ g, C.ra = some g → ¬ g = w.heap.size := fun g hg => by
    rw [c6] at hg
    have := Q3.out g hg
    omega
  have keep : ∀ wr, Fr (fun b => b = w.heap.size) w3 wr → Own wr C (.slice none 0 0) ⟨zeroR, 256 * 16, 327680, 0, fun _ => 0, fun _ => 0, [77, 300], 0, []⟩ := fun wr hf =>
    HO.out.kept hf (Ne.symm n1) (Ne.symm n2) (Ne.symm n3) (Ne.symm n4) (Ne.symm n5) n6 (fun g hg => by cases hg)
  have KEEP := Lib.hid keep
  have hown : ∀ k, k < w.heap.size + 1 → ¬ C.own (.slice none 0 0) k := by
    intro k hk
    have := HX2.out.lt
    rintro (e | e | e | e | e)
    · omega
    · omega
    · omega
    · omega
    · cases e
  have OWN := Lib.hid hown
  clear keep hown n1 n2 n3 n4 n5 n6 c1 c2 c3 c4 c5 c6 m1 m2 m3 q1 k1 k2 k3 ho hx3 hb3 sz1
  go_wp2_with fail
  go_loopw [6] (fun i wr => ∃ k : Nat, k ≤ 8 ∧ i = .int .i64 k ∧ Row wr w.heap.size (setG r k).cells 28 ∧ Fr (fun b => b = w.heap.size) w3 wr) (fun i _ => 8 - (intOf i).toNat)
  case atStart => exact ⟨0, by omega, rfl, HX3.out, Fr.refl _ _⟩
  case round =>
    obtain ⟨k, hk, rfl, hrow, hfr⟩ := hrel
    have x1 := hrow.cell
    have x2 := hrow.frozen
    have x3 := hrow.lt
    have HR1 := Lib.hid hrow
    have HFR1 := Lib.hid hfr
    clear hrow hfr
    have hcases : k = 0 ∨ k = 1 ∨ k = 2 ∨ k = 3 ∨ k = 4 ∨ k = 5 ∨ k = 6 ∨ k = 7 ∨ k = 8 := by omega
    rcases hcases with rfl | rfl | rfl | rfl | rfl | rfl | rfl | rfl | rfl
    · go_wp2_with fail
      exact ⟨⟨1, by omega, by rfl, by have := HR1.out.setCell (2 * 0 + 1) (.bool false); exact this, (HFR1.out.setCell (p := ⟨w.heap.size, _, none⟩) rfl _)⟩, by simp [intOf]⟩
    · go_wp2_with fail
      exact ⟨⟨2, by omega, by rfl, by have := HR1.out.setCell (2 * 1 + 1) (.bool false); exact this, (HFR1.out.setCell (p := ⟨w.heap.size, _, none⟩) rfl _)⟩, by simp [intOf]⟩
    · go_wp2_with fail
      exact ⟨⟨3, by omega, by rfl, by have := HR1.out.setCell (2 * 2 + 1) (.bool false); exact this, (HFR1.out.setCell (p := ⟨w.heap.size, _, none⟩) rfl _)⟩, by simp [intOf]⟩
    · go_wp2_with fail
      exact ⟨⟨4, by omega, by rfl, by have := HR1.out.setCell (2 * 3 + 1) (.bool false); exact this, (HFR1.out.setCell (p := ⟨w.heap.size, _, none⟩) rfl _)⟩, by simp [intOf]⟩
    · go_wp2_with fail
      exact ⟨⟨5, by omega, by rfl, by have := HR1.out.setCell (2 * 4 + 1) (.bool false); exact this, (HFR1.out.setCell (p := ⟨w.heap.size, _, none⟩) rfl _)⟩, by simp [intOf]⟩
    · go_wp2_with fail
      exact ⟨⟨6, by omega, by rfl, by have := HR1.out.setCell (2 * 5 + 1) (.bool false); exact this, (HFR1.out.setCell (p := ⟨w.heap.size, _, none⟩) rfl _)⟩, by simp [intOf]⟩
    · go_wp2_with fail
      exact ⟨⟨7, by omega, by rfl, by have := HR1.out.setCell (2 * 6 + 1) (.bool false); exact this, (HFR1.out.setCell (p := ⟨w.heap.size, _, none⟩) rfl _)⟩, by simp [intOf]⟩
    · go_wp2_with fail
      exact ⟨⟨8, by omega, by rfl, by have := HR1.out.setCell (2 * 7 + 1) (.bool false); exact this, (HFR1.out.setCell (p := ⟨w.heap.size, _, none⟩) rfl _)⟩, by simp [intOf]⟩
    · go_upto_region 10 with fail
      have hrow : Row (((((((((wr.setCell ⟨w.heap.size, 25, none⟩ (.int .u16 (andW r.f 4053))).setCell ⟨w.heap.size, 16, none⟩ (.int .u16 8448)).setCell ⟨w.heap.size, 17, none⟩ (.bool true)).setCell ⟨w.heap.size, 18, none⟩ (.int .u16 256)).setCell ⟨w.heap.size, 19, none⟩ (.bool true)).setCell ⟨w.heap.size, 20, none⟩ (.int .u16 12544)).setCell ⟨w.heap.size, 21, none⟩ (.bool true)).setCell ⟨w.heap.size, 22, none⟩ (.int .u16 4352)).setCell ⟨w.heap.size, 23, none⟩ (.bool true)) w.heap.size (begR r).cells 28 := by
        have := ((((((((HR1.out.setCell 25 (.int .u16 (andW r.f 4053))).setCell 16 (.int .u16 8448)).setCell 17 (.bool true)).setCell 18 (.int .u16 256)).setCell 19 (.bool true)).setCell 20 (.int .u16 12544)).setCell 21 (.bool true)).setCell 22 (.int .u16 4352)).setCell 23 (.bool true)
        rwa [begR_cells] at this
      have hfr : Fr (fun b => b = w.heap.size) w3 (((((((((wr.setCell ⟨w.heap.size, 25, none⟩ (.int .u16 (andW r.f 4053))).setCell ⟨w.heap.size, 16, none⟩ (.int .u16 8448)).setCell ⟨w.heap.size, 17, none⟩ (.bool true)).setCell ⟨w.heap.size, 18, none⟩ (.int .u16 256)).setCell ⟨w.heap.size, 19, none⟩ (.bool true)).setCell ⟨w.heap.size, 20, none⟩ (.int .u16 12544)).setCell ⟨w.heap.size, 21, none⟩ (.bool true)).setCell ⟨w.heap.size, 22, none⟩ (.int .u16 4352)).setCell ⟨w.heap.size, 23, none⟩ (.bool true)) := by
        exact ((((((((HFR1.out.setCell (p := ⟨w.heap.size, _, none⟩) rfl _).setCell (p := ⟨w.heap.size, _, none⟩) rfl _).setCell (p := ⟨w.heap.size, _, none⟩) rfl _).setCell (p := ⟨w.heap.size, _, none⟩) rfl _).setCell (p := ⟨w.heap.size, _, none⟩) rfl _).setCell (p := ⟨w.heap.size, _, none⟩) rfl _).setCell (p := ⟨w.heap.size, _, none⟩) rfl _).setCell (p := ⟨w.heap.size, _, none⟩) rfl _).setCell (p := ⟨w.heap.size, _, none⟩) rfl _
      rw [show (setG r 8).f = r.f from rfl]
      clear x1 x2 x3 HR1
      generalize (((((((((wr.setCell ⟨w.heap.size, 25, none⟩ (.int .u16 (andW r.f 4053))).setCell ⟨w.heap.size, 16, none⟩ (.int .u16 8448)).setCell ⟨w.heap.size, 17, none⟩ (.bool true)).setCell ⟨w.heap.size, 18, none⟩ (.int .u16 256)).setCell ⟨w.heap.size, 19, none⟩ (.bool true)).setCell ⟨w.heap.size, 20, none⟩ (.int .u16 12544)).setCell ⟨w.heap.size, 21, none⟩ (.bool true)).setCell ⟨w.heap.size, 22, none⟩ (.int .u16 4352)).setCell ⟨w.heap.size, 23, none⟩ (.bool true)) = W4 at hrow hfr ⊢
      have xr : regsIn W4 w.heap.size = some (begR r).val := (regsIn_row hrow).trans (rowRegs_regs _)
      have HO4 := Lib.hid (KEEP.out _ hfr)
      have HX4 := Lib.hid hrow
      have HF4 := Lib.hid hfr
      clear hrow hfr HFR1
      go_wp2_with fail
      refine (set_any _ C (.slice none 0 0) _ HO4.out (begR r) (begR_wf hr)).mono ?_
      rintro e w5 ⟨rfl, lv5, h5, f5, k5⟩; dsimp only
      have HL5 := Lib.hid (show Laying w W4 C (.slice none 0 0) r bs 0 w5 from ⟨lv5, by rw [List.take_zero, codeMem_nil]; exact h5, ⟨f5, k5⟩, f5.row HX4.out (OWN.out _ (Nat.lt_succ_self _))⟩)
      clear h5 f5 k5 xr
      go_wp2_with fail
      go_loopw [7] (fun i wr => ∃ k : Nat, k ≤ bs.length ∧ i = .int .i64 k ∧ Laying w W4 C (.slice none 0 0) r bs k wr) (fun i _ => bs.length - (intOf i).toNat)
      case atStart => exact ⟨0, by omega, rfl, HL5.out⟩
      case round =>
        obtain ⟨k, hk, rfl, lv6, o6, a6, x6⟩ := hrel
        have HO6 := Lib.hid o6
        have HA6 := Lib.hid a6
        have HX6 := Lib.hid x6
        have B6 := Lib.hid (below_of HB3.out HF4.out a6.f (fun k hk e => by omega) (fun k hk => OWN.out k (Nat.lt_succ_of_lt hk)) HX3.out.lt)
        clear o6 a6 x6
        by_cases hlt : k < bs.length
        · have hi : ((k : Nat) : Int) < (bs.length : Int) := by omega
          have hi2 : ((k : Nat) : Int) < 64 := by omega
          have hi3 : (0 : Int) ≤ (k : Int) := by omega
          have ew : IntKind.u16.wrap (k : Int) = (k : Int) := by rw [IntKind.wrap_u16]; omega
          have c26 : wr.cell? ⟨C.b, 26, none⟩ = some (.pointer (some ⟨C.mb, 0, none⟩)) := (HO6.out.row.cell 26).trans (mcell26 C _)
          have cip : wr.cell? ⟨w.heap.size, 24, none⟩ = some (.int .u16 r.ip) := HX6.out.cell 24
          have cby : wr.cell? ⟨g, k, none⟩ = some (.int .u8 (bs.getD k 0)) := (B6.out.cell (p := ⟨g, k, none⟩) hg).trans (HBY.out k hlt)
          have hw := HWF.out k
          obtain ⟨o, ho⟩ : ∃ o, IntKind.u16.wrap (r.ip + k) = o := ⟨_, rfl⟩
          have o0 : 0 ≤ o := ho ▸ wrap16_lo _
          have o1 : o ≤ 65535 := ho ▸ wrap16_hi _
          obtain ⟨v, hv⟩ : ∃ v, bs.getD k 0 = v := ⟨_, rfl⟩
          rw [hv] at hw cby
          have HV := Lib.hid hv
          have HOO := Lib.hid ho
          clear hv
          go_wp2_with fail
          refine range_of (wr) ?_; intro S inst ω hin hout
          have r1 := range_cell hin c26
          have r2 := range_cell hin cip
          have r3 := range_cell hin cby
          clear c26 cip cby
          refine wp_region_tail_range ω 13 (by kernel_rfl) (by kernel_rfl) (hout _ (Below.refl _ _).drew) ?_; simp only [List.take_succ_cons, List.take_zero, List.drop_succ_cons, List.drop_zero]
          repeat (go_big_quiet_step (fail))
          refine wpQuiet_nil ?_; intro _ hw'; obtain ⟨nq, rfl⟩ := hw'
          have HO7 := Lib.hid (HO6.out.below (hin nq))
          have HA7 := Lib.hid (HA6.out.below (hin nq))
          have HX7 := Lib.hid (Below.row (hin nq) HX6.out HX6.out.lt)
          clear r1 r2 r3
          generalize ω nq = w7 at HO7 HA7 HX7 ⊢
          go_wp2_with fail
          refine (memSetByte_any _ _ _ _ _ _ HO7.out.mem 256 o (by decide) (by decide) o0 o1 v hw.1 hw.2).mono ?_
          rintro e w8 ⟨rfl, hm, hf⟩; dsimp only
          have ht : upd (fun _ => (0 : Int)) (lin 256 o) 0 = fun _ => 0 := by funext x; unfold upd; split <;> rfl
          have hmm : upd (codeMem r.ip (bs.take k)) (lin 256 o) v = codeMem r.ip (bs.take (k + 1)) := by
            rw [← HV.out, ← HOO.out]; exact codeMem_step r.ip bs k hlt (by omega)
          rw [ht, hmm] at hm
          have HO8 := Lib.hid (HO7.out.setMem hf hm)
          have HA8 := Lib.hid (HA7.out.setMem hf)
          have HX8 := Lib.hid (hf.row HX7.out (fun h => OWN.out w.heap.size (Nat.lt_succ_self _) (ownM_own C (.slice none 0 0) _ h)))
          clear hm hf ht hmm ho
          go_wp2_with fail
          exact ⟨⟨k + 1, by omega, by go_num, lv6, HO8.out, HA8.out, HX8.out⟩, by simp [intOf]; omega⟩
        · obtain rfl : k = bs.length := by omega
          have hi : ¬ ((bs.length : Nat) : Int) < (bs.length : Int) := by omega
          go_wp2_with fail
          go_ret
          have hO := HO6.out
          rw [List.take_length] at hO
          exact ⟨C, lv6, rfl, hO, B6.out, own_lv (fun k hk => OWN.out k (Nat.lt_succ_of_lt hk)) HA6.out.k (Nat.le_trans (Nat.le_of_lt HX3.out.lt) HF4.out.size)⟩
end Go.Proofs.YtcglkefaopgjeaaGreatDoor
