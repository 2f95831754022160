/- Parts of the proof, in one text: YtcglkefaopgjeaaGreatDoorI8. Each part's own remark says what it proves; conditions: those of each theorem. -/
import Derived.Test.YtcglkefaopgjeaaGreatDoorV1

/- Package cpu: Fetch, where an instruction stands and all its bytes are the program's and plain. -/
namespace Go.Proofs.YtcglkefaopgjeaaGreatDoor
set_option linter.unusedSimpArgs false
set_option linter.unusedVariables false
open Go.RowKit

theorem lt_n (w : World) (o : Obj) : w.heap.size < (w.alloc o).heap.size := by rw [World.size_alloc]; exact Nat.lt_succ_self _

theorem results_fetch (tmps : Array Value) (w : World) (a b c : Nat) (i : Inst) (n : Nat) (x y : Int) (h2 : tmps.getD 2 undef = .pointer (some ⟨a, 0, none⟩)) (h3 : tmps.getD 3 undef = .int .i64 n) (h4 : tmps.getD 4 undef = .pointer (some ⟨b, 0, none⟩)) (h5 : tmps.getD 5 undef = .pointer (some ⟨c, 0, none⟩)) (h6 : tmps.getD 6 undef = .bool true)
    (hi : Row w a i.cells 30) (hb : Row w b #[.int .u16 x, .bool false] 24) (hc : Row w c #[.int .u16 y, .bool false] 24) :
    (results (Tryz.f17) tmps).run Tryz.prog w = .ok (.tuple #[i.val, .int .i64 n, V.val ⟨x, false⟩, V.val ⟨y, false⟩, .bool true]) w := by
  have g2 : tmps[2]?.getD undef = .pointer (some ⟨a, 0, none⟩) := by simpa using h2
  have g3 : tmps[3]?.getD undef = .int .i64 n := by simpa using h3
  have g4 : tmps[4]?.getD undef = .pointer (some ⟨b, 0, none⟩) := by simpa using h4
  have g5 : tmps[5]?.getD undef = .pointer (some ⟨c, 0, none⟩) := by simpa using h5
  have g6 : tmps[6]?.getD undef = .bool true := by simpa using h6
  have li := run_loadVar_row (P := Tryz.prog) w a 30 30 i.cells (0, 0) _ hi Tryz.underlying30 rfl (by kernel_rfl)
  have lb := run_loadVar_row (P := Tryz.prog) w b 24 24 #[.int .u16 x, .bool false] (0, 0) _ hb Tryz.underlying24 rfl (by kernel_rfl)
  have lc := run_loadVar_row (P := Tryz.prog) w c 24 24 #[.int .u16 y, .bool false] (0, 0) _ hc Tryz.underlying24 rfl (by kernel_rfl)
  simp [results, Tryz.results17, g2, g3, g4, g5, g6, asAddr, li, lb, lc]
theorem le3 {a b : Nat} (h : a + 1 + 1 + 1 ≤ b) : a ≤ b := by omega
theorem belowZ {B : Nat} {a b c : World} (h : Below B a b) (hB : B ≤ a.heap.size) (k : Below b.heap.size b c) : Below B a c := h.trans (k.mono (Nat.le_trans hB h.size))
def WordAt (w : World) (k : Nat) : Prop := ∃ x : Int, Row w k #[.int .u16 x, .bool false] 24
theorem wordAt_new (w : World) (x : Int) (t : Bool) (ht : t = false) : WordAt (w.alloc (.cells #[.int .u16 x, .bool t] 24)) w.heap.size := ⟨x, ht ▸ Row.new _ _ _⟩
theorem wordAt_set {w : World} {k : Nat} {a b : Value} (h : Row w k #[a, b] 24) (x : Int) (t : Bool) (ht : t = false) : WordAt ((w.setCell ⟨k, 0, none⟩ (.int .u16 x)).setCell ⟨k, 1, none⟩ (.bool t)) k := ⟨x, ht ▸ row_s2 h⟩

set_option maxRecDepth 100000 in
set_option maxHeartbeats 6400000 in
theorem fetch_ok (w : World) (C : Phys) (lv : Value) (m : Mach) (h : Own w C lv m) (i : Inst) (n : Nat) (ht : takeF m.code = some (i, n)) (hp : m.plainB (-1) n = true) :
    Calls Tryz.prog 17 #[.pointer (some ⟨C.b, 0, none⟩)] w fun e w' => e = .returned (.tuple #[i.val, .int .i64 n, V.val ⟨i.imm, false⟩, V.val ⟨i.sel, false⟩, .bool true]) ∧ Below w.heap.size w w' := by
  have H := Lib.hid h
  have s1w := h.wf.r.s1
  have p0 := s1w.1
  have p1 := s1w.2
  have hb0 := ((((Below.refl w.heap.size w).alloc (Nat.le_refl _) (.cells zeroI.cells 30)).alloc (by simp) (.cells #[.int .u16 0, .bool false] 24)).alloc (by simp; omega) (.cells #[.int .u16 0, .bool false] 24)).alloc (by simp; omega) (.cells zeroB 108)
  have HB0 := Lib.hid hb0
  have HA0 := Lib.hid (Row.new' (w := ((w.alloc (.cells zeroI.cells 30)).alloc (.cells #[.int .u16 0, .bool false] 24)).alloc (.cells #[.int .u16 0, .bool false] 24)) (n := w.heap.size + 1 + 1 + 1) (cs := zeroB) (t := 108) (by simp))
  have HI0 := Lib.hid ((((Row.new w zeroI.cells 30).alloc (.cells #[.int .u16 0, .bool false] 24)).alloc (.cells #[.int .u16 0, .bool false] 24)).alloc (.cells zeroB 108))
  have HT0 := Lib.hid (((Row.new' (w := w.alloc (.cells zeroI.cells 30)) (n := w.heap.size + 1) (cs := #[.int .u16 0, .bool false]) (t := 24) (by simp)).alloc (.cells #[.int .u16 0, .bool false] 24)).alloc (.cells zeroB 108))
  have HS0 := Lib.hid ((Row.new' (w := (w.alloc (.cells zeroI.cells 30)).alloc (.cells #[.int .u16 0, .bool false] 24)) (n := w.heap.size + 1 + 1) (cs := #[.int .u16 0, .bool false]) (t := 24) (by simp)).alloc (.cells zeroB 108))
  clear h hb0
  go_enter Tryz.func17, Tryz.ntmps17
  go_wp2_with fail
  generalize (((w.alloc (.cells zeroI.cells 30)).alloc (.cells #[.int .u16 0, .bool false] 24)).alloc (.cells #[.int .u16 0, .bool false] 24)).alloc (.cells zeroB 108) = W0 at *
  go_loopw [22] (fun i wr => ∃ (k : Nat) (cs : Array Value), k ≤ 12 ∧ i = .int .i64 k ∧ cs.size = 12 ∧ (∀ j, j < k → cs[j]? = some (.int .u8 (m.code j))) ∧ Row wr (w.heap.size + 1 + 1 + 1) cs 108 ∧ Below (w.heap.size + 1 + 1 + 1) W0 wr) (fun i _ => 12 - (intOf i).toNat)
  case atStart => exact ⟨0, zeroB, by omega, rfl, rfl, fun _ hj => absurd hj (Nat.not_lt_zero _), HA0.out, Below.refl _ _⟩
  case round =>
    obtain ⟨k, cs, hk, rfl, hcs, hby, hrow, hbl⟩ := hrel
    have hb1 := HB0.out.trans (hbl.mono (by omega))
    have HBW := Lib.hid hbl
    have B3 := Lib.hid (show w.heap.size + 1 + 1 + 1 ≤ W0.heap.size from Nat.le_of_lt HA0.out.lt)
    have HO := Lib.hid (H.out.below hb1)
    have HR := Lib.hid hrow
    have HBL := Lib.hid hbl
    have HBY := Lib.hid hby
    clear hb1 hrow hbl hby
    by_cases hlt : k < 12
    · have hi : ((k : Nat) : Int) < 12 := by omega
      go_wp2_with fail
      refine (here_any _ _ _ _ HO.out k (by omega) (by omega)).mono ?_
      obtain ⟨o, ho⟩ : ∃ o, IntKind.u16.wrap (m.r.ip + k) = o := ⟨_, rfl⟩
      have o0 : 0 ≤ o := ho ▸ wrap16_lo _
      have o1 : o ≤ 65535 := ho ▸ wrap16_hi _
      have HOFF := Lib.hid ho
      rw [ho]
      clear ho
      rintro e w1 ⟨rfl, hb⟩; dsimp only
      have hr1 := Below.row hb HR.out HR.out.lt
      have HO1 := Lib.hid ((HO.out.below hb).alloc (.cells #[.int .u16 m.r.s1.v, .bool m.r.s1.t, .int .u16 o] 52))
      have HR1 := Lib.hid (hr1.alloc (.cells #[.int .u16 m.r.s1.v, .bool m.r.s1.t, .int .u16 o] 52))
      have hb2 := (HBL.out.trans (hb.mono (by have := HR.out.lt; omega)))
      have HBL1 := Lib.hid (hb2.alloc (by have := hr1.lt; omega) (.cells #[.int .u16 m.r.s1.v, .bool m.r.s1.t, .int .u16 o] 52))
      have HX1 := Lib.hid (Row.new w1 #[.int .u16 m.r.s1.v, .bool m.r.s1.t, .int .u16 o] 52)
      have HNE := Lib.hid (show w1.heap.size ≠ w.heap.size + 1 + 1 + 1 by have := hr1.lt; omega)
      clear hb hr1 hb2
      go_upto_region 6 with fail
      generalize w1.alloc (.cells #[.int .u16 m.r.s1.v, .bool m.r.s1.t, .int .u16 o] 52) = W1 at HO1 HR1 HBL1 HX1 ⊢
      have c26 : W1.cell? ⟨C.b, 26, none⟩ = some (.pointer (some ⟨C.mb, 0, none⟩)) := (HO1.out.row.cell 26).trans (mcell26 C m)
      have x0 : W1.cell? ⟨w1.heap.size, 0, none⟩ = some (.int .u16 m.r.s1.v) := HX1.out.cell 0
      have x2 : W1.cell? ⟨w1.heap.size, 2, none⟩ = some (.int .u16 o) := HX1.out.cell 2
      have ra := HR1.out.cell k
      have ra2 : W1.cell? ⟨w.heap.size + 1 + 1 + 1, k, none⟩ = some (cs[k]'(by omega)) := by rw [ra, Array.getElem?_eq_getElem (by omega)]
      have rf := HR1.out.frozen k
      have i1 : (0 : Int) ≤ (k : Int) := by omega
      have i2 : ¬ (12 : Int) ≤ (k : Int) := by omega
      have ne1 : ¬ C.b = w.heap.size + 1 + 1 + 1 := by have := H.out.row.lt; omega
      have ne2 : ¬ w.heap.size + 1 + 1 + 1 = C.b := by omega
      have ne3 : ¬ w1.heap.size = w.heap.size + 1 + 1 + 1 := HNE.out
      have ne4 : ¬ w.heap.size + 1 + 1 + 1 = w1.heap.size := by omega
      clear ra
      have CL := Lib.hid (HO1.out.mem)
      go_region_held3 (fun w' => w'.cell? ⟨C.b, 26, none⟩ = some (.pointer (some ⟨C.mb, 0, none⟩)) ∧ w'.cell? ⟨w1.heap.size, 0, none⟩ = some (.int .u16 m.r.s1.v) ∧ w'.cell? ⟨w1.heap.size, 2, none⟩ = some (.int .u16 o)) (go_keep) ((go_at_call 57; refine (memByte_any _ _ _ _ _ _ (CL.out.drew) m.r.s1.v o p0 p1 o0 o1).mono ?_; rintro e w' ⟨rfl, rfl⟩))
      clear c26 x0 x2 ra2 rf ne1 ne2 ne3 ne4
      go_wp2_with fail
      have hr2 := (HR1.out.setCell k (.int .u8 (m.mem (lin m.r.s1.v o)))).drew
      have hb2 := (HBL1.out.setCell (p := ⟨w.heap.size + 1 + 1 + 1, k, none⟩) (Nat.le_refl _) (.int .u8 (m.mem (lin m.r.s1.v o)))).drew
      refine ⟨⟨k + 1, _, by omega, by go_num, by rw [Array.size_setIfInBounds]; exact hcs, fun j hj => ?_, hr2, hb2⟩, by simp [intOf]; omega⟩
      by_cases e : j = k
      · subst e
        rw [Array.getElem?_setIfInBounds_self_of_lt (by omega), Mach.code, HOFF.out]
      · rw [Array.getElem?_setIfInBounds_ne (Ne.symm e)]
        exact HBY.out j (by omega)
    · obtain rfl : k = 12 := by omega
      have HBF := Lib.hid (show ∀ j, j < 12 → wr.cell? ⟨w.heap.size + 1 + 1 + 1, j, none⟩ = some (.int .u8 (m.code j)) from fun j hj => (HR.out.cell j).trans (HBY.out j hj))
      go_wp2_with fail
      refine (scanGet_any _ _ m.code HBF.out HR.out.lt (fun k => HO.out.mem.wf _)).mono ?_
      rw [ht]
      rintro e w1 ⟨rfl, hb⟩; dsimp only [GetVal]
      have HO1 := Lib.hid (HO.out.below hb)
      have HBW1 := Lib.hid (belowZ HBW.out B3.out hb)
      clear hb
      obtain ⟨⟨rn, ra, rb, rmod⟩, hr, hiw, hn11, hn2⟩ := takeF_row (fun k => H.out.mem.wf _) ht
      have HX1 := Lib.hid (Row.new w1 i.cells 30)
      have HO2 := Lib.hid (HO1.out.alloc (.cells i.cells 30))
      have HBW2 := Lib.hid (HBW1.out.alloc (Nat.le_trans B3.out HBW1.out.size) (.cells i.cells 30))
      go_wp2_with fail
      refine (instRow_any i _ hiw.op.1 hiw.op.2 hiw.reg.1 hiw.reg.2).mono ?_
      rw [hr, rowV_some]
      rintro e w2 ⟨rfl, hb⟩; dsimp only
      have HO3 := Lib.hid ((HO2.out.below hb).alloc (.cells #[.int .i64 rn, .int .i64 ra, .int .i64 rb, .bool rmod] 47))
      have HX3 := Lib.hid ((Below.row hb HX1.out HX1.out.lt).alloc (.cells #[.int .i64 rn, .int .i64 ra, .int .i64 rb, .bool rmod] 47))
      have HY3 := Lib.hid (Row.new w2 #[.int .i64 rn, .int .i64 ra, .int .i64 rb, .bool rmod] 47)
      have hbw2 := belowZ HBW2.out B3.out hb
      have HBW3 := Lib.hid (hbw2.alloc (Nat.le_trans B3.out hbw2.size) (.cells #[.int .i64 rn, .int .i64 ra, .int .i64 rb, .bool rmod] 47))
      clear hb hbw2
      go_upto_region 15 with fail
      generalize w2.alloc (.cells #[.int .i64 rn, .int .i64 ra, .int .i64 rb, .bool rmod] 47) = W3 at HO3 HX3 HY3 HBW3 ⊢
      have xc := HX3.out.cell
      have xl := HX3.out.lt
      go_cut [15, 16] (fun s15 s16 wx => ∃ k1 k2 : Nat, s15 = .pointer (some ⟨k1, 0, none⟩) ∧ s16 = .pointer (some ⟨k2, 0, none⟩) ∧ W3.heap.size ≤ k1 ∧ W3.heap.size ≤ k2 ∧ k1 ≠ k2 ∧ Row wx k1 #[.int .u16 i.imm, .bool false] 24 ∧ Row wx k2 #[.int .u16 i.sel, .bool false] 24 ∧ Below W3.heap.size W3 wx)
      case first =>
        go_region
        · go_wp2_with fail
          go_meet
          refine ⟨_, _, rfl, rfl, ?_, ?_, ?_, ?_, ?_, ?_⟩ <;> first | (simp; done) | (simp; omega) | ((repeat (first | exact Below.refl _ _ | assumption | refine Below.setCell ?_ (by simp) _ | refine Below.alloc ?_ (by simp <;> omega) _ | refine Below.drew ?_ | refine Below.drewN ?_ | refine Below.setRow ?_ (by simp <;> omega) _)); done) | ((repeat (first | assumption | (refine Row.new' ?_; simp; done) | refine Row.alloc ?_ _ | refine Row.drew ?_ | refine Row.drewN ?_ | refine Row.setCell_other ?_ _ _ (by simp; omega))); done)
        · go_wp2_with fail
          go_meet
          refine ⟨_, _, rfl, rfl, ?_, ?_, ?_, ?_, ?_, ?_⟩ <;> first | (simp; done) | (simp; omega) | ((repeat (first | exact Below.refl _ _ | assumption | refine Below.setCell ?_ (by simp) _ | refine Below.alloc ?_ (by simp <;> omega) _ | refine Below.drew ?_ | refine Below.drewN ?_ | refine Below.setRow ?_ (by simp <;> omega) _)); done) | ((repeat (first | assumption | (refine Row.new' ?_; simp; done) | refine Row.alloc ?_ _ | refine Row.drew ?_ | refine Row.drewN ?_ | refine Row.setCell_other ?_ _ _ (by simp; omega))); done)
      case rest =>
        obtain ⟨k1, k2, rfl, rfl, l1, l2, hne, hk1, hk2, hbw⟩ := hcut
        have HO4 := Lib.hid (HO3.out.below hbw)
        have HX4 := Lib.hid (Below.row hbw HX3.out HX3.out.lt)
        have HY4 := Lib.hid (Below.row hbw HY3.out HY3.out.lt)
        have HBW4 := Lib.hid (belowZ HBW3.out B3.out hbw)
        have HK1 := Lib.hid hk1
        have HK2 := Lib.hid hk2
        have HNE := Lib.hid hne
        have HL1 := Lib.hid (show w.heap.size + 1 + 1 + 1 ≤ k1 from Nat.le_trans B3.out (Nat.le_trans HBW3.out.size l1))
        have HL2 := Lib.hid (show w.heap.size + 1 + 1 + 1 ≤ k2 from Nat.le_trans B3.out (Nat.le_trans HBW3.out.size l2))
        have NX1 := Lib.hid (show w1.heap.size ≠ k1 by have := HX3.out.lt; omega)
        have NX2 := Lib.hid (show w1.heap.size ≠ k2 by have := HX3.out.lt; omega)
        clear hbw hk1 hk2 hne xc xl l1 l2
        have yc := HY4.out.cell
        go_upto_block 2 with fail
        refine (imms_any ⟨rn, ra, rb, rmod⟩ _).mono ?_
        obtain ⟨nb, hnb⟩ : ∃ nb, immsOf ⟨rn, ra, rb, rmod⟩ = nb := ⟨_, rfl⟩
        rw [hnb] at hn2
        rw [hnb]
        rintro e w5 ⟨rfl, hb⟩; dsimp only
        have HO5 := Lib.hid (HO4.out.below hb)
        have HX5 := Lib.hid (Below.row hb HX4.out HX4.out.lt)
        have HY5 := Lib.hid (Below.row hb HY4.out HY4.out.lt)
        have HK5 := Lib.hid (Below.row hb HK1.out HK1.out.lt)
        have HJ5 := Lib.hid (Below.row hb HK2.out HK2.out.lt)
        have HBW5 := Lib.hid (belowZ HBW4.out B3.out hb)
        clear hb yc
        go_upto_block 2 with fail
        go_cut [17] (fun s17 wx => ∃ x : Int, s17 = .int .i64 x ∧ Row wx w1.heap.size i.cells 30 ∧ Row wx k1 #[.int .u16 i.imm, .bool false] 24 ∧ Row wx k2 #[.int .u16 i.sel, .bool false] 24 ∧ Own wx C lv m ∧ Below (w.heap.size + 1 + 1 + 1) W0 wx)
        case first =>
          have cases3 : nb = 2 ∨ nb = 4 ∨ ((nb == 2) = false ∧ (nb == 4) = false) := by simp only [beq_eq_false_iff_ne]; omega
          rcases cases3 with rfl | rfl | ⟨t2, t4⟩
          · have n2 : 2 ≤ n := hn2 (Or.inl rfl)
            obtain ⟨p1, hp1⟩ : ∃ p, (ra == 7) = p := ⟨_, rfl⟩
            obtain ⟨p2, hp2⟩ : ∃ p, (rb == 7) = p := ⟨_, rfl⟩
            have yc := HY5.out.cell
            cases p1 <;> cases p2
            · go_wp2_with fail
              go_meet
              exact ⟨_, rfl, HX5.out, HK5.out, HJ5.out, HO5.out, HBW5.out⟩
            rotate_left 2
            · exfalso
              have e1 : ra = 7 := by simpa using hp1
              have e2 : rb = 7 := by simpa using hp2
              rw [e1, e2] at hnb
              simp [immsOf, immOf] at hnb
            all_goals
              go_upto_region 21 with fail
              go_cut [18] (fun s18 wx => ∃ k : Nat, s18 = .pointer (some ⟨k, 0, none⟩) ∧ WordAt wx k ∧ Below w5.heap.size w5 wx)
              case first =>
                have ew : IntKind.u16.wrap ((n : Int) - 2) = ((n - 2 : Nat) : Int) := by rw [IntKind.wrap_u16]; omega
                have hT : mwordT m.tag (lin m.r.s1.v (IntKind.u16.wrap (m.r.ip + IntKind.u16.wrap ((n : Int) - 2)))) (lin m.r.s1.v (succW (IntKind.u16.wrap (m.r.ip + IntKind.u16.wrap ((n : Int) - 2))))) = false := by
                  rw [mwordT, ew, plainB_tag rfl hp (by omega)]; rfl
                clear ew
                have HTT := Lib.hid hT; clear hT
                have c26 : w5.cell? ⟨C.b, 26, none⟩ = some (.pointer (some ⟨C.mb, 0, none⟩)) := (HO5.out.row.cell 26).trans (mcell26 C m)
                have c24 : w5.cell? ⟨C.b, 24, none⟩ = some (.int .u16 m.r.ip) := (HO5.out.row.cell 24).trans (mcell24 C m)
                have sr := HO5.out.sees.r
                have sl := HO5.out.row.lt
                have f5 : ¬ C.b = w5.heap.size := Nat.ne_of_lt sl
                have f6 : ¬ w5.heap.size = C.b := Ne.symm (Nat.ne_of_lt sl)
                go_region_held3 (fun w' => regsIn w' C.b = some m.r.val ∧ w'.cell? ⟨C.b, 26, none⟩ = some (.pointer (some ⟨C.mb, 0, none⟩)) ∧ w'.cell? ⟨C.b, 24, none⟩ = some (.int .u16 m.r.ip)) ((refine ⟨?_, ?_, ?_⟩; (focus ((repeat (first | assumption | (rw [regsIn_drew]) | (rw [regsIn_alloc_past _ _ _ (by first | assumption | (simp; omega))]) | (refine (regsIn_setCell_other _ _ _ _ ?_).trans ?_; (focus (first | (simp; done) | (simp; omega) | (simp [*]; done)))))); done)); (focus (go_keep)); (focus (go_keep)))) (first | (go_at_call 64; refine (seg1_any m.r _).mono ?_; rintro e w8 ⟨rfl, hb⟩; have HB8 := Lib.hid (below_in (a := w5) (by (repeat (first | exact Below.refl _ _ | refine below_alloc ?_ _ | refine Below.drew ?_))) hb); have HO8 := Lib.hid (Own.below (C := C) (lv := lv) (m := m) (by (repeat (first | exact HO5.out | refine Own.alloc ?_ _ | refine Own.drew ?_))) hb); have q26 : w8.cell? ⟨C.b, 26, none⟩ = some (.pointer (some ⟨C.mb, 0, none⟩)) := (HO8.out.row.cell 26).trans (mcell26 C m); have q24 : w8.cell? ⟨C.b, 24, none⟩ = some (.int .u16 m.r.ip) := (HO8.out.row.cell 24).trans (mcell24 C m); have qr := HO8.out.sees.r; have ql := HO8.out.row.lt; have f1 : ¬ C.b = w8.heap.size := Nat.ne_of_lt ql; have f2 : ¬ w8.heap.size = C.b := Ne.symm (Nat.ne_of_lt ql); (try ((first | with_reducible have R8 := Below.row hb (row_d w5 #[.int .u16 0, .bool false] 24) (lt_d w5 _) | with_reducible have R8 := Below.row hb (row_e w5 #[.int .u16 0, .bool false] 24) (lt_e w5 _)); have rc8 := R8.cell; have rf8 := R8.frozen; have rl8 := R8.lt)); clear hb) | (go_at_call 63; refine (memWord_any C.mb C.bb C.tb m.mem m.tag _ (by (repeat (first | exact HO8.out.mem | refine MemAt.alloc ?_ _ | refine MemAt.drew ?_))) _ _ p0 p1 (wrap16_lo _) (wrap16_hi _)).mono ?_; rintro e w9 ⟨rfl, hb⟩; have HB9 := Lib.hid (below_in (a := w5) (by (repeat (first | exact Below.refl _ _ | exact HB8.out | refine below_alloc ?_ _ | refine Below.drew ?_))) hb); have HO9 := Lib.hid (Own.below (C := C) (lv := lv) (m := m) (by (repeat (first | exact HO8.out | refine Own.alloc ?_ _ | refine Own.drew ?_))) hb); have s26 : w9.cell? ⟨C.b, 26, none⟩ = some (.pointer (some ⟨C.mb, 0, none⟩)) := (HO9.out.row.cell 26).trans (mcell26 C m); have s24 : w9.cell? ⟨C.b, 24, none⟩ = some (.int .u16 m.r.ip) := (HO9.out.row.cell 24).trans (mcell24 C m); have s_r := HO9.out.sees.r; have s_l := HO9.out.row.lt; have f3 : ¬ C.b = w9.heap.size := Nat.ne_of_lt s_l; have f4 : ¬ w9.heap.size = C.b := Ne.symm (Nat.ne_of_lt s_l); (try ((with_reducible have R9 := Below.row hb R8 rl8); have rc9 := R9.cell; have rf9 := R9.frozen; have rl9 := R9.lt)); (try ((with_reducible have Q9 := Below.row hb (Row.new w8 #[.int .u16 0, .bool false] 24) (lt_n w8 _)); have qc9 := Q9.cell; have qf9 := Q9.frozen; have ql9 := Q9.lt)); clear hb))
                all_goals
                  go_wp2_with fail
                  go_meet
                  refine ⟨_, rfl, ?_, ?_⟩
                  · first | (with_reducible exact wordAt_new w9 _ _ HTT.out) | (with_reducible exact wordAt_set R9 _ _ HTT.out) | (with_reducible exact wordAt_set Q9 _ _ HTT.out)
                  · have l8 := HB8.out.size
                    have l9 := HB9.out.size
                    repeat (first | (with_reducible exact HB9.out) | (with_reducible refine below_alloc ?_ _) | (with_reducible refine Below.drew ?_) | (refine Below.setCell ?_ (by first | exact Nat.le_refl _ | assumption) _))
              case rest =>
                obtain ⟨k, rfl, ⟨x, hk⟩, hbw⟩ := hcut
                have HO6 := Lib.hid (HO5.out.below hbw)
                have HX6 := Lib.hid (Below.row hbw HX5.out HX5.out.lt)
                have HK6 := Lib.hid (Below.row hbw HK5.out HK5.out.lt)
                have HJ6 := Lib.hid (Below.row hbw HJ5.out HJ5.out.lt)
                have HBW6 := Lib.hid (belowZ HBW5.out B3.out hbw)
                have kc := hk.cell
                have c1 := HK6.out.cell
                have q1 := HK6.out.frozen
                clear hk hbw yc
                go_wp2_with fail
                go_meet
                exact ⟨_, rfl, HX6.out.setCell_other _ _ NX1.out, HK6.out.setCell 1 _, HJ6.out.setCell_other _ _ (Ne.symm HNE.out), HO6.out.setBox (p := ⟨k1, 1, none⟩) (H.out.fresh (le3 HL1.out)) (H.out.apart (le3 HL1.out)) _, HBW6.out.setCell (p := ⟨k1, 1, none⟩) HL1.out _⟩
          · have n2 : 2 ≤ n := hn2 (Or.inr rfl)
            go_upto_region 25 with fail
            go_cut [20] (fun s20 wx => ∃ k : Nat, s20 = .pointer (some ⟨k, 0, none⟩) ∧ WordAt wx k ∧ Below w5.heap.size w5 wx)
            case first =>
                have ew : IntKind.u16.wrap ((n : Int) - 2) = ((n - 2 : Nat) : Int) := by rw [IntKind.wrap_u16]; omega
                have hT : mwordT m.tag (lin m.r.s1.v (IntKind.u16.wrap (m.r.ip + IntKind.u16.wrap ((n : Int) - 2)))) (lin m.r.s1.v (succW (IntKind.u16.wrap (m.r.ip + IntKind.u16.wrap ((n : Int) - 2))))) = false := by
                  rw [mwordT, ew, plainB_tag rfl hp (by omega)]; rfl
                clear ew
                have HTT := Lib.hid hT; clear hT
                have c26 : w5.cell? ⟨C.b, 26, none⟩ = some (.pointer (some ⟨C.mb, 0, none⟩)) := (HO5.out.row.cell 26).trans (mcell26 C m)
                have c24 : w5.cell? ⟨C.b, 24, none⟩ = some (.int .u16 m.r.ip) := (HO5.out.row.cell 24).trans (mcell24 C m)
                have sr := HO5.out.sees.r
                have sl := HO5.out.row.lt
                have f5 : ¬ C.b = w5.heap.size := Nat.ne_of_lt sl
                have f6 : ¬ w5.heap.size = C.b := Ne.symm (Nat.ne_of_lt sl)
                go_region_held3 (fun w' => regsIn w' C.b = some m.r.val ∧ w'.cell? ⟨C.b, 26, none⟩ = some (.pointer (some ⟨C.mb, 0, none⟩)) ∧ w'.cell? ⟨C.b, 24, none⟩ = some (.int .u16 m.r.ip)) ((refine ⟨?_, ?_, ?_⟩; (focus ((repeat (first | assumption | (rw [regsIn_drew]) | (rw [regsIn_alloc_past _ _ _ (by first | assumption | (simp; omega))]) | (refine (regsIn_setCell_other _ _ _ _ ?_).trans ?_; (focus (first | (simp; done) | (simp; omega) | (simp [*]; done)))))); done)); (focus (go_keep)); (focus (go_keep)))) (first | (go_at_call 64; refine (seg1_any m.r _).mono ?_; rintro e w8 ⟨rfl, hb⟩; have HB8 := Lib.hid (below_in (a := w5) (by (repeat (first | exact Below.refl _ _ | refine below_alloc ?_ _ | refine Below.drew ?_))) hb); have HO8 := Lib.hid (Own.below (C := C) (lv := lv) (m := m) (by (repeat (first | exact HO5.out | refine Own.alloc ?_ _ | refine Own.drew ?_))) hb); have q26 : w8.cell? ⟨C.b, 26, none⟩ = some (.pointer (some ⟨C.mb, 0, none⟩)) := (HO8.out.row.cell 26).trans (mcell26 C m); have q24 : w8.cell? ⟨C.b, 24, none⟩ = some (.int .u16 m.r.ip) := (HO8.out.row.cell 24).trans (mcell24 C m); have qr := HO8.out.sees.r; have ql := HO8.out.row.lt; have f1 : ¬ C.b = w8.heap.size := Nat.ne_of_lt ql; have f2 : ¬ w8.heap.size = C.b := Ne.symm (Nat.ne_of_lt ql); (try ((first | with_reducible have R8 := Below.row hb (row_d w5 #[.int .u16 0, .bool false] 24) (lt_d w5 _) | with_reducible have R8 := Below.row hb (row_e w5 #[.int .u16 0, .bool false] 24) (lt_e w5 _)); have rc8 := R8.cell; have rf8 := R8.frozen; have rl8 := R8.lt)); clear hb) | (go_at_call 63; refine (memWord_any C.mb C.bb C.tb m.mem m.tag _ (by (repeat (first | exact HO8.out.mem | refine MemAt.alloc ?_ _ | refine MemAt.drew ?_))) _ _ p0 p1 (wrap16_lo _) (wrap16_hi _)).mono ?_; rintro e w9 ⟨rfl, hb⟩; have HB9 := Lib.hid (below_in (a := w5) (by (repeat (first | exact Below.refl _ _ | exact HB8.out | refine below_alloc ?_ _ | refine Below.drew ?_))) hb); have HO9 := Lib.hid (Own.below (C := C) (lv := lv) (m := m) (by (repeat (first | exact HO8.out | refine Own.alloc ?_ _ | refine Own.drew ?_))) hb); have s26 : w9.cell? ⟨C.b, 26, none⟩ = some (.pointer (some ⟨C.mb, 0, none⟩)) := (HO9.out.row.cell 26).trans (mcell26 C m); have s24 : w9.cell? ⟨C.b, 24, none⟩ = some (.int .u16 m.r.ip) := (HO9.out.row.cell 24).trans (mcell24 C m); have s_r := HO9.out.sees.r; have s_l := HO9.out.row.lt; have f3 : ¬ C.b = w9.heap.size := Nat.ne_of_lt s_l; have f4 : ¬ w9.heap.size = C.b := Ne.symm (Nat.ne_of_lt s_l); (try ((with_reducible have R9 := Below.row hb R8 rl8); have rc9 := R9.cell; have rf9 := R9.frozen; have rl9 := R9.lt)); (try ((with_reducible have Q9 := Below.row hb (Row.new w8 #[.int .u16 0, .bool false] 24) (lt_n w8 _)); have qc9 := Q9.cell; have qf9 := Q9.frozen; have ql9 := Q9.lt)); clear hb))
                all_goals
                  go_wp2_with fail
                  go_meet
                  refine ⟨_, rfl, ?_, ?_⟩
                  · first | (with_reducible exact wordAt_new w9 _ _ HTT.out) | (with_reducible exact wordAt_set R9 _ _ HTT.out) | (with_reducible exact wordAt_set Q9 _ _ HTT.out)
                  · have l8 := HB8.out.size
                    have l9 := HB9.out.size
                    repeat (first | (with_reducible exact HB9.out) | (with_reducible refine below_alloc ?_ _) | (with_reducible refine Below.drew ?_) | (refine Below.setCell ?_ (by first | exact Nat.le_refl _ | assumption) _))
            case rest =>
                obtain ⟨k, rfl, ⟨x, hk⟩, hbw⟩ := hcut
                have HO6 := Lib.hid (HO5.out.below hbw)
                have HX6 := Lib.hid (Below.row hbw HX5.out HX5.out.lt)
                have HK6 := Lib.hid (Below.row hbw HK5.out HK5.out.lt)
                have HJ6 := Lib.hid (Below.row hbw HJ5.out HJ5.out.lt)
                have HBW6 := Lib.hid (belowZ HBW5.out B3.out hbw)
                have kc := hk.cell
                have c1 := HJ6.out.cell
                have q1 := HJ6.out.frozen
                clear hk hbw
                go_wp2_with fail
                go_meet
                exact ⟨_, rfl, HX6.out.setCell_other _ _ NX2.out, HK6.out.setCell_other _ _ HNE.out, HJ6.out.setCell 1 _, HO6.out.setBox (p := ⟨k2, 1, none⟩) (H.out.fresh (le3 HL2.out)) (H.out.apart (le3 HL2.out)) _, HBW6.out.setCell (p := ⟨k2, 1, none⟩) HL2.out _⟩
          · go_wp2_with fail
            go_meet
            exact ⟨_, rfl, HX5.out, HK5.out, HJ5.out, HO5.out, HBW5.out⟩
        case rest =>
          obtain ⟨x, rfl, hx, hk, hj, ho, hbw⟩ := hcut
          have HO7 := Lib.hid ho
          have HX7 := Lib.hid hx
          have HK7 := Lib.hid hk
          have HJ7 := Lib.hid hj
          have HBW7 := Lib.hid hbw
          have kc := hk.cell
          have jc := hj.cell
          clear ho hx hk hj hbw
          go_wp2_with fail
          refine (plainN_any _ _ _ _ HO7.out n (-1) (by omega) (by decide) (by decide)).mono ?_
          rw [hp]
          rintro e w8 ⟨rfl, hb⟩; dsimp only
          have HX8 := Lib.hid (Below.row hb HX7.out HX7.out.lt)
          have HK8 := Lib.hid (Below.row hb HK7.out HK7.out.lt)
          have HJ8 := Lib.hid (Below.row hb HJ7.out HJ7.out.lt)
          have HBW8 := Lib.hid (belowZ HBW7.out B3.out hb)
          clear hb kc jc
          have I8 := Below.row HBW8.out HI0.out (by omega)
          have T8 := Below.row HBW8.out HT0.out (by omega)
          have S8 := Below.row HBW8.out HS0.out (by omega)
          have HI8 := Lib.hid I8
          have HT8 := Lib.hid T8
          have HS8 := Lib.hid S8
          have B8 := Lib.hid (HB0.out.trans (HBW8.out.mono (by omega)))
          have l0 := HI0.out.lt
          have lw1 : w.heap.size + 1 + 1 + 1 < w1.heap.size := Nat.lt_of_lt_of_le HA0.out.lt HBW1.out.size
          have g1 := HL1.out
          have g2 := HL2.out
          have d1 : ¬ w1.heap.size = w.heap.size := by omega
          have d2 : ¬ w1.heap.size = w.heap.size + 1 := by omega
          have d3 : ¬ w1.heap.size = w.heap.size + 1 + 1 := by omega
          have d4 : ¬ k1 = w.heap.size := by omega
          have d5 : ¬ k1 = w.heap.size + 1 := by omega
          have d6 : ¬ k1 = w.heap.size + 1 + 1 := by omega
          have d7 : ¬ k2 = w.heap.size := by omega
          have d8 : ¬ k2 = w.heap.size + 1 := by omega
          have d9 : ¬ k2 = w.heap.size + 1 + 1 := by omega
          have e1 := Ne.symm d1
          have e2 := Ne.symm d2
          have e3 := Ne.symm d3
          have e4 := Ne.symm d4
          have e5 := Ne.symm d5
          have e6 := Ne.symm d6
          have e7 := Ne.symm d7
          have e8 := Ne.symm d8
          have e9 := Ne.symm d9
          have xc := HX8.out.cell
          have kc := HK8.out.cell
          have jc := HJ8.out.cell
          have ic := I8.cell
          have tc := T8.cell
          have sc := S8.cell
          have jf := I8.frozen
          have tf := T8.frozen
          have sf := S8.frozen
          clear I8 T8 S8 l0 lw1 g1 g2
          go_wp2_with fail
          go_region
          all_goals
            go_wp2_with fail
            have ri := row_inst i HI8.out
            have ti := row_inst_other i w.heap.size HT8.out (by omega)
            have si := row_inst_other i w.heap.size HS8.out (by omega)
            have bi := inst_below i w.heap.size B8.out (Nat.le_refl _)
            refine bodyPost_ret (results_fetch _ _ w.heap.size (w.heap.size + 1) (w.heap.size + 1 + 1) i n i.imm i.sel rfl rfl rfl rfl rfl ?_ ?_ ?_) rfl ⟨rfl, ?_⟩
            · exact ((((ri.setCell_other ⟨w.heap.size + 1, 0, none⟩ _ (by simp)).setCell_other ⟨w.heap.size + 1, 1, none⟩ _ (by simp)).setCell_other ⟨w.heap.size + 1 + 1, 0, none⟩ _ (by simp; omega)).setCell_other ⟨w.heap.size + 1 + 1, 1, none⟩ _ (by simp; omega)).drew
            · exact (((row_s2 ti).setCell_other ⟨w.heap.size + 1 + 1, 0, none⟩ _ (by simp)).setCell_other ⟨w.heap.size + 1 + 1, 1, none⟩ _ (by simp)).drew
            · exact (row_s2 ((si.setCell_other ⟨w.heap.size + 1, 0, none⟩ _ (by simp)).setCell_other ⟨w.heap.size + 1, 1, none⟩ _ (by simp))).drew
            · exact Below.drew ((((bi.setCell (p := ⟨w.heap.size + 1, 0, none⟩) (Nat.le_succ _) _).setCell (p := ⟨w.heap.size + 1, 1, none⟩) (Nat.le_succ _) _).setCell (p := ⟨w.heap.size + 1 + 1, 0, none⟩) (show w.heap.size ≤ w.heap.size + 1 + 1 by omega) _).setCell (p := ⟨w.heap.size + 1 + 1, 1, none⟩) (show w.heap.size ≤ w.heap.size + 1 + 1 by omega) _)
end Go.Proofs.YtcglkefaopgjeaaGreatDoor
