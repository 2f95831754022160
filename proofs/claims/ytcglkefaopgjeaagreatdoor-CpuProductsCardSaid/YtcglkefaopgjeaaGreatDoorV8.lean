/- Parts of the proof, in one text: YtcglkefaopgjeaaGreatDoorU8. Each part's own remark says what it proves; conditions: those of each theorem. -/
import Derived.Test.YtcglkefaopgjeaaGreatDoorV7

/- The law CpuProducts. -/
namespace Go.Proofs.YtcglkefaopgjeaaGreatDoor
set_option linter.unusedSimpArgs false
set_option linter.unusedVariables false
open Go.RowKit

theorem retB {a b : Bool} (h : a = b) : Ending.returned (.bool a) = .returned (.bool b) := by rw [h]
theorem prod_in {C : Phys} {lv : Value} {w w2 w3 w4 : World} {m : Mach} {j : Inst} {r : IRow} {T : TypeId} {B5 B6 : Nat} (hb : Below w.heap.size w w2) (hj : Row w2 B5 j.cells 30) (hr : Row w2 B6 (rowC r) 47) (hg : Row w2 0 basesC T)
    (h3 : Below w2.heap.size w2 w3) (ho : Own w4 C lv m) (h4 : Below w3.heap.size w3 w4) (hn : ∀ k, k < w3.heap.size → ¬ C.own lv k) : PIn C lv w w4 m j r T B5 B6 :=
  ⟨ho, (hb.trans (h3.mono hb.size)).trans (h4.mono (Nat.le_trans hb.size h3.size)), fresh_box h4 hn (Below.row h3 hj hj.lt), fresh_box h4 hn (Below.row h3 hr hr.lt), fresh_box h4 hn (Below.row h3 hg hg.lt),
    fun k hk => hn k (Nat.lt_of_lt_of_le hk (Nat.le_trans hb.size h3.size))⟩
set_option maxRecDepth 100000 in
set_option maxHeartbeats 6400000 in
theorem cpuProducts_any (KP : PutSays) (r : Regs) (hr : r.wf) (x : Inst) (hx : x.kinds) (w : World) (T : TypeId) (hT : Row w 0 basesC T) :
    Calls Tryz.prog 6 #[r.val, x.val] w fun e w' => e = .returned (.bool true) ∧ Below w.heap.size w w' := by
  obtain ⟨K, N, hK, hN, hok⟩ := prod_there x hx
  have KO := Lib.hid (fun w => only_any x hx 86 89 (by decide) K N hK hN hok w)
  clear hK hN hok
  have HB0 := Lib.hid (((Below.refl w.heap.size w).alloc (Nat.le_refl _) (.cells r.cells 28)).alloc (by simp) (.cells x.cells 30))
  have HR0 := Lib.hid ((Row.new w r.cells 28).alloc (.cells x.cells 30))
  have HX0 := Lib.hid (Row.new' (w := w.alloc (.cells r.cells 28)) (n := w.heap.size + 1) (cs := x.cells) (t := 30) (by simp))
  have HG0 := Lib.hid ((hT.alloc (.cells r.cells 28)).alloc (.cells x.cells 30))
  have W0 := Lib.hid hT.lt
  clear hT
  have xx := HX0.out.cell
  go_enter Tryz.func6, Tryz.ntmps6
  go_wp2_with fail
  refine (KO.out _).mono ?_
  rintro e w1 ⟨j, R, hg, hrow, n0, n1, rfl, hb⟩; dsimp only
  obtain ⟨rn, ra, rb, rm⟩ := R
  dsimp only at n0 n1
  have HB1 := Lib.hid (HB0.out.trans (hb.mono HB0.out.size))
  have HR1 := Lib.hid (Below.row hb HR0.out HR0.out.lt)
  have HG1 := Lib.hid (Below.row hb HG0.out HG0.out.lt)
  clear hb xx KO
  go_upto_region 2 with fail
  have HB2 := Lib.hid ((HB1.out.alloc HB1.out.size (.cells j.cells 30)).alloc (by rw [World.size_alloc]; exact Nat.le_succ_of_le HB1.out.size) (.cells #[.int .i64 rn, .int .i64 ra, .int .i64 rb, .bool rm] 47))
  have HR2 := Lib.hid ((HR1.out.alloc (.cells j.cells 30)).alloc (.cells #[.int .i64 rn, .int .i64 ra, .int .i64 rb, .bool rm] 47))
  have HG2 := Lib.hid ((HG1.out.alloc (.cells j.cells 30)).alloc (.cells #[.int .i64 rn, .int .i64 ra, .int .i64 rb, .bool rm] 47))
  have HJ2 := Lib.hid ((Row.new w1 j.cells 30).alloc (.cells #[.int .i64 rn, .int .i64 ra, .int .i64 rb, .bool rm] 47))
  have HS2 := Lib.hid (Row.new' (w := w1.alloc (.cells j.cells 30)) (n := w1.heap.size + 1) (cs := #[.int .i64 rn, .int .i64 ra, .int .i64 rb, .bool rm]) (t := 47) (by simp))
  generalize (w1.alloc (.cells j.cells 30)).alloc (.cells #[.int .i64 rn, .int .i64 ra, .int .i64 rb, .bool rm] 47) = w2 at HB2 HR2 HG2 HJ2 HS2 ⊢
  generalize w1.heap.size = B5 at HJ2 HS2 ⊢
  obtain ⟨L, hL⟩ : ∃ l, putL j = l := ⟨_, rfl⟩
  have HL := Lib.hid hL
  have HGD := Lib.hid hg
  have HROW := Lib.hid hrow
  have hlen := putL_le j
  have KPJ := Lib.hid (KP j hg)
  have HW := Lib.hid (putL_wf j hg)
  rw [hL] at KPJ HW hlen
  clear KP hL hg hrow
  go_upto_region 4 with fail
  go_cut [8] (fun s8 wx => ∃ (C : Phys) (lv : Value), s8 = .pointer (some ⟨C.b, 0, none⟩) ∧ PIn C lv w wx (begun r L) j ⟨rn, ra, rb, rm⟩ T B5 (B5 + 1))
  case first =>
    have xj := HJ2.out.cell
    obtain ⟨xc, xf, xr, xs, xl⟩ := HR2.out.sees
    have lj := HJ2.out.lt
    go_region_held3 (fun w' => regsIn w' w.heap.size = some r.val ∧ (∀ k, w'.cell? ⟨B5, k, none⟩ = j.cells[k]?)) ((refine ⟨?_, ?_⟩; (focus ((repeat (first | assumption | (rw [regsIn_drew]) | (rw [regsIn_alloc_past _ _ _ (by first | assumption | (simp; omega))]))); done)); (focus (go_keep)))) (first | (go_at_call 15; refine (KPJ.out _).mono ?_; rintro e w3 ⟨g, cap, rfl, hb, hg0, hg1, hcells⟩; have HB23 := Lib.hid (below_in (a := w2) (by (repeat (first | exact Below.refl _ _ | refine below_alloc ?_ _ | refine Below.drew ?_))) hb); have xr3 : regsIn w3 w.heap.size = some r.val := (regsIn_row (Below.row HB23.out HR2.out HR2.out.lt)).trans (rowRegs_regs r); have xl3 : w.heap.size < w3.heap.size := (Below.row HB23.out HR2.out HR2.out.lt).lt; have xj3 := (Below.row HB23.out HJ2.out HJ2.out.lt).cell; have lj3 := (Below.row HB23.out HJ2.out HJ2.out.lt).lt; have KB := Lib.hid (begin_any w3 r hr g cap L hg1 hcells HW.out (by omega)); clear hb hg0 hg1 hcells) | (go_at_call 16; refine KB.out.mono ?_; rintro e w4 ⟨C, lv, rfl, ho, hb4, hn⟩; have HP4 := Lib.hid (prod_in (r := ⟨rn, ra, rb, rm⟩) HB2.out HJ2.out HS2.out HG2.out HB23.out ho hb4 hn); have xr4 : regsIn w4 w.heap.size = some r.val := (regsIn_row (Below.row hb4 (Below.row HB23.out HR2.out HR2.out.lt) (Below.row HB23.out HR2.out HR2.out.lt).lt)).trans (rowRegs_regs r); have xj4 := HP4.out.i.row.cell; clear ho hb4 hn))
    all_goals
      go_wp2_with fail
      go_meet
      exact ⟨C, lv, rfl, HP4.out⟩
  case rest =>
    obtain ⟨C, lv, rfl, hp⟩ := hcut
    have HP := Lib.hid hp
    have hra := prod_row HGD.out.wf.op.1 HGD.out.wf.op.2 HGD.out.wf.reg.1 HGD.out.wf.reg.2 HROW.out n0 n1
    dsimp only at hra
    have KS := Lib.hid (fun w lv h hb => prod_step r hr j HGD.out L HL.out ⟨rn, ra, rb, rm⟩ HROW.out n0 n1 C T w lv h hb)
    have KV := Lib.hid (fun w lv h hb => value_any w C lv (begun r L) h T hb j ra (getOk_all T j HGD.out.wf ra (by omega)))
    rw [(easy_begun r L).getM] at KV
    have hv : 0 ≤ ((begun r L).getV j ra ⟨j.imm, false⟩).v ∧ ((begun r L).getV j ra ⟨j.imm, false⟩).v ≤ limW (wideB ra) := by
      rcases hra with rfl | rfl
      · exact getV_byte hp.o j _
      · exact getV_wf hp.o j 2 (tail := ⟨j.imm, false⟩) ⟨HGD.out.wf.imm.1, HGD.out.wf.imm.2⟩
    have KW := Lib.hid (fun w => wide_any ra w (by omega) (by omega))
    dsimp only at KS
    generalize ((begun r L).getV j ra ⟨j.imm, false⟩).v = v at hv KS KV
    generalize wideB ra = wd at hv KS KW
    have hv0 := hv.1
    have hv1 : v ≤ 65535 := Int.le_trans hv.2 (limW_le wd)
    clear hra hp KPJ HW HB2 HR2 HG2 HJ2 HS2 hlen
    have xs := HP.out.r.row.cell
    go_wp2_with fail
    refine (KW.out _).mono ?_
    rintro e w' ⟨rfl, rfl⟩; dsimp only
    have xi := HP.out.i.row.cell
    go_wp2_with fail
    refine (KV.out _ _ HP.out.o HP.out.g).mono ?_
    clear xs xi
    rintro e w5 ⟨rfl, lv5, h5, f5, k5⟩; dsimp only
    have HP5 := Lib.hid (HP.out.step h5 f5 k5)
    clear h5 f5 k5
    have c0 : w5.cell? ⟨C.b, 0, none⟩ = some (.int .u16 r.g0.v) := (HP5.out.o.row.cell 0).trans rfl
    have c4 : w5.cell? ⟨C.b, 4, none⟩ = some (.int .u16 r.g2.v) := (HP5.out.o.row.cell 4).trans rfl
    have a0 : 0 ≤ r.g0.v := hr.g0.1
    have a1 : r.g0.v ≤ 65535 := hr.g0.2
    have d0 : 0 ≤ r.g2.v := hr.g2.1
    have d1 : r.g2.v ≤ 65535 := hr.g2.2
    go_upto_region 7 with fail
    go_region
    all_goals
      clear c0 c4
      have HP6 := Lib.hid HP5.out.drew
      generalize w5.drew = w6 at HP6 ⊢
      have sc := HP6.out.o.sees.c; have sf := HP6.out.o.sees.f; have sr := HP6.out.o.sees.r; have ss := HP6.out.o.sees.s; have sl := HP6.out.o.sees.l
      go_upto_region 9 with fail
      have HBF7 := Lib.hid (Box.new HP6.out.o (begun r L).r.cells 28)
      have HP7 := Lib.hid (HP6.out.alloc (.cells (begun r L).r.cells 28))
      clear sc sf sr ss sl
      generalize w6.alloc (.cells (begun r L).r.cells 28) = w7 at HP7 HBF7 ⊢
      go_wp2_with fail
      refine (KS.out _ _ HP7.out.o HP7.out.g).mono ?_
      rintro e w8 ⟨rfl, lv8, h8, f8, k8⟩; dsimp only
      have HP8 := Lib.hid (HP7.out.step h8 f8 k8)
      have HBF8 := Lib.hid (HBF7.out.step f8 k8)
      clear h8 f8 k8 KS KV KW HP HP5 HP6 HP7 HBF7
      have hc : (rn = 86 ∧ wd = true) ∨ (rn = 86 ∧ wd = false) ∨ rn = 87 ∨ rn = 88 ∨ rn = 89 := by cases wd <;> simp <;> omega
      rcases hc with ⟨rfl, rfl⟩ | ⟨rfl, rfl⟩ | rfl | rfl | rfl
      · as_aux_lemma =>
        obtain ⟨m1, m2, m3, m4, m5, m6⟩ := mul_true r hr L L.length v hv0 hv1
        generalize prodM ((begun r L).on L.length) 86 v true = M at HP8 m1 m2 m3 m4 m5 m6
        have HST := Lib.hid m1
        have HEV := Lib.hid m2
        have p0 : 0 ≤ r.g0.v * v := Int.mul_nonneg a0 hv0
        have p1 : r.g0.v * v ≤ 65535 * 65535 := Int.mul_le_mul a1 hv1 hv0 (by decide)
        generalize hP : r.g0.v * v = P at m3 m4 m5 m6 p0 p1
        have HPP := Lib.hid hP
        clear hP
        have HF1 := Lib.hid m5
        have HF2 := Lib.hid m6
        clear m1 m2 m5 m6
        have c27 : w8.cell? ⟨C.b, 27, none⟩ = some (.pointer (some ⟨C.wb, 0, none⟩)) := (HP8.out.o.row.cell 27).trans (mcell27 C _)
        have hw := HP8.out.o.wor
        rw [HEV.out] at hw
        go_wp2_with fail
        refine (events_any _ _ _ _ _ hw).mono ?_
        rintro e w9 ⟨v9, rfl, hq, hb9⟩; dsimp only
        have HP9 := Lib.hid (HP8.out.below hb9)
        have HBF9 := Lib.hid (HBF8.out.below hb9)
        obtain ⟨o9, c9, rfl⟩ : ∃ (o : Option Addr) (c : Nat), v9 = .slice o 0 c := by
          rcases hq.2 with ⟨hv, _⟩ | ⟨g, cap, _, hv, _⟩
          · exact ⟨none, 0, hv⟩
          · exact ⟨some ⟨g, 0, none⟩, cap, hv⟩
        clear c27 hw hq hb9
        have xr := HP9.out.r.row.cell
        have c0 : w9.cell? ⟨C.b, 0, none⟩ = some (.int .u16 (P % 65536)) := (HP9.out.o.row.cell 0).trans (m3 ▸ rfl)
        have c4 : w9.cell? ⟨C.b, 4, none⟩ = some (.int .u16 (P / 65536)) := (HP9.out.o.row.cell 4).trans (m4 ▸ rfl)
        have c25 : w9.cell? ⟨C.b, 25, none⟩ = some (.int .u16 M.r.f) := (HP9.out.o.row.cell 25).trans rfl
        clear m3 m4
        go_upto_region 16 with fail
        rw [show r.g0.v * v % 4294967296 = P by rw [HPP.out]; omega]
        have eg : P % 65536 + P / 65536 * 65536 = P := by omega
        have eh : 0 ≤ P / 65536 ∧ P / 65536 ≤ 65535 := by omega
        go_upto_region 23 with fail
        clear c0 c4 c25
        by_cases hm : 65535 < P
        · have f1 : andW M.r.f 1 = 1 := by rw [HF1.out, show (P / 65536 != 0) = true by simp; omega]; rfl
          have f2 : andW M.r.f 2048 = 2048 := by rw [HF2.out, show (P / 65536 != 0) = true by simp; omega]; rfl
          go_wp2_with fail
          refine (awake_any _).mono ?_
          rintro e w10 ⟨rfl, hb10⟩; dsimp only
          have HP10 := Lib.hid (HP9.out.below hb10)
          clear hb10
          have c25 : w10.cell? ⟨C.b, 25, none⟩ = some (.int .u16 M.r.f) := (HP10.out.o.row.cell 25).trans rfl
          go_wp2_with fail
          refine (state_any _ _ _ _ HP10.out.o).mono ?_
          rw [HST.out]
          rintro e w' ⟨rfl, rfl⟩; dsimp only
          go_wp2_with fail
          go_ret
          first | exact ⟨rfl, HP10.out.b⟩ | exact ⟨retB (by simp; omega), HP10.out.b⟩
        · have f1 : andW M.r.f 1 = 0 := by rw [HF1.out, show (P / 65536 != 0) = false by simp; omega]; rfl
          have f2 : andW M.r.f 2048 = 0 := by rw [HF2.out, show (P / 65536 != 0) = false by simp; omega]; rfl
          go_wp2_with fail
          refine (awake_any _).mono ?_
          rintro e w10 ⟨rfl, hb10⟩; dsimp only
          have HP10 := Lib.hid (HP9.out.below hb10)
          clear hb10
          have c25 : w10.cell? ⟨C.b, 25, none⟩ = some (.int .u16 M.r.f) := (HP10.out.o.row.cell 25).trans rfl
          go_wp2_with fail
          refine (state_any _ _ _ _ HP10.out.o).mono ?_
          rw [HST.out]
          rintro e w' ⟨rfl, rfl⟩; dsimp only
          go_wp2_with fail
          go_ret
          first | exact ⟨rfl, HP10.out.b⟩ | exact ⟨retB (by simp; omega), HP10.out.b⟩
      · as_aux_lemma =>
        obtain ⟨m1, m2, m3, m5, m6⟩ := mul_false r hr L L.length v hv0 hv.2
        generalize prodM ((begun r L).on L.length) 86 v false = M at HP8 m1 m2 m3 m5 m6
        have HST := Lib.hid m1
        have HEV := Lib.hid m2
        have x0 : 0 ≤ r.g0.v % 256 ∧ r.g0.v % 256 ≤ 255 := by omega
        have p0 : 0 ≤ r.g0.v % 256 * v := Int.mul_nonneg x0.1 hv0
        have p1 : r.g0.v % 256 * v ≤ 255 * 255 := Int.mul_le_mul x0.2 hv.2 hv0 (by decide)
        generalize hP : r.g0.v % 256 * v = P at m3 m5 m6 p0 p1
        have HPP := Lib.hid hP
        clear hP
        rw [show P % 256 + 256 * (P / 256 % 256) = P by omega] at m3
        have HF1 := Lib.hid m5
        have HF2 := Lib.hid m6
        clear m1 m2 m5 m6
        have c27 : w8.cell? ⟨C.b, 27, none⟩ = some (.pointer (some ⟨C.wb, 0, none⟩)) := (HP8.out.o.row.cell 27).trans (mcell27 C _)
        have hw := HP8.out.o.wor
        rw [HEV.out] at hw
        go_wp2_with fail
        refine (events_any _ _ _ _ _ hw).mono ?_
        rintro e w9 ⟨v9, rfl, hq, hb9⟩; dsimp only
        have HP9 := Lib.hid (HP8.out.below hb9)
        have HBF9 := Lib.hid (HBF8.out.below hb9)
        obtain ⟨o9, c9, rfl⟩ : ∃ (o : Option Addr) (c : Nat), v9 = .slice o 0 c := by
          rcases hq.2 with ⟨hv, _⟩ | ⟨g, cap, _, hv, _⟩
          · exact ⟨none, 0, hv⟩
          · exact ⟨some ⟨g, 0, none⟩, cap, hv⟩
        clear c27 hw hq hb9
        have xr := HP9.out.r.row.cell
        have c0 : w9.cell? ⟨C.b, 0, none⟩ = some (.int .u16 P) := (HP9.out.o.row.cell 0).trans (m3 ▸ rfl)
        clear m3
        go_upto_region 16 with fail
        rw [show r.g0.v % 256 * v % 4294967296 = P by rw [HPP.out]; omega]
        go_upto_region 23 with fail
        clear c0
        by_cases hm : 255 < P
        · have f1 : andW M.r.f 1 = 1 := by rw [HF1.out, show (P / 256 % 256 != 0) = true by simp; omega]; rfl
          have f2 : andW M.r.f 2048 = 2048 := by rw [HF2.out, show (P / 256 % 256 != 0) = true by simp; omega]; rfl
          go_wp2_with fail
          refine (awake_any _).mono ?_
          rintro e w10 ⟨rfl, hb10⟩; dsimp only
          have HP10 := Lib.hid (HP9.out.below hb10)
          clear hb10
          have c25 : w10.cell? ⟨C.b, 25, none⟩ = some (.int .u16 M.r.f) := (HP10.out.o.row.cell 25).trans rfl
          go_wp2_with fail
          refine (state_any _ _ _ _ HP10.out.o).mono ?_
          rw [HST.out]
          rintro e w' ⟨rfl, rfl⟩; dsimp only
          go_wp2_with fail
          go_ret
          first | exact ⟨rfl, HP10.out.b⟩ | exact ⟨retB (by simp; omega), HP10.out.b⟩
        · have f1 : andW M.r.f 1 = 0 := by rw [HF1.out, show (P / 256 % 256 != 0) = false by simp; omega]; rfl
          have f2 : andW M.r.f 2048 = 0 := by rw [HF2.out, show (P / 256 % 256 != 0) = false by simp; omega]; rfl
          go_wp2_with fail
          refine (awake_any _).mono ?_
          rintro e w10 ⟨rfl, hb10⟩; dsimp only
          have HP10 := Lib.hid (HP9.out.below hb10)
          clear hb10
          have c25 : w10.cell? ⟨C.b, 25, none⟩ = some (.int .u16 M.r.f) := (HP10.out.o.row.cell 25).trans rfl
          go_wp2_with fail
          refine (state_any _ _ _ _ HP10.out.o).mono ?_
          rw [HST.out]
          rintro e w' ⟨rfl, rfl⟩; dsimp only
          go_wp2_with fail
          go_ret
          first | exact ⟨rfl, HP10.out.b⟩ | exact ⟨retB (by simp; omega), HP10.out.b⟩
      · as_aux_lemma =>
        have HST := Lib.hid (show (prodM ((begun r L).on L.length) 87 v wd).state = 0 from rfl)
        have HEV := Lib.hid (show (prodM ((begun r L).on L.length) 87 v wd).ev = [] from rfl)
        generalize prodM ((begun r L).on L.length) 87 v wd = M at HP8 HST HEV
        have c27 : w8.cell? ⟨C.b, 27, none⟩ = some (.pointer (some ⟨C.wb, 0, none⟩)) := (HP8.out.o.row.cell 27).trans (mcell27 C _)
        have hw := HP8.out.o.wor
        rw [HEV.out] at hw
        go_wp2_with fail
        refine (events_any _ _ _ _ _ hw).mono ?_
        rintro e w9 ⟨v9, rfl, hq, hb9⟩; dsimp only
        have HP9 := Lib.hid (HP8.out.below hb9)
        have HBF9 := Lib.hid (HBF8.out.below hb9)
        obtain ⟨o9, c9, rfl⟩ : ∃ (o : Option Addr) (c : Nat), v9 = .slice o 0 c := by
          rcases hq.2 with ⟨hv, _⟩ | ⟨g, cap, _, hv, _⟩
          · exact ⟨none, 0, hv⟩
          · exact ⟨some ⟨g, 0, none⟩, cap, hv⟩
        clear c27 hw hq hb9
        have xr := HP9.out.r.row.cell
        go_upto_region 12 with fail
        go_wp2_with fail
        refine (awake_any _).mono ?_
        rintro e w10 ⟨rfl, hb10⟩; dsimp only
        have HP10 := Lib.hid (HP9.out.below hb10)
        clear hb10
        go_wp2_with fail
        refine (state_any _ _ _ _ HP10.out.o).mono ?_
        rw [HST.out]
        rintro e w' ⟨rfl, rfl⟩; dsimp only
        go_wp2_with fail
        go_ret
        exact ⟨rfl, HP10.out.b⟩
      · as_aux_lemma =>
        have hcc : (v = 0 ∨ limW wd < numN r wd / v) ∨ (v ≠ 0 ∧ ¬ limW wd < numN r wd / v) := by
          by_cases e : v = 0
          · exact Or.inl (Or.inl e)
          · by_cases e2 : limW wd < numN r wd / v
            · exact Or.inl (Or.inr e2)
            · exact Or.inr ⟨e, e2⟩
        rcases hcc with hno | ⟨hz, hle⟩
        · obtain ⟨m1, m2, m3⟩ := div88_no r hr L L.length v wd hv0 hv.2 hno
          generalize prodM ((begun r L).on L.length) 88 v wd = M at HP8 m1 m2 m3
          have HST := Lib.hid m1
          have HEV := Lib.hid m2
          have hbf := HBF8.out
          change Box C lv8 w8 _ (begR r).cells _ at hbf
          change M.r = { begR r with ip := IntKind.u16.wrap ((begR r).ip + L.length) } at m3
          generalize begR r = R0 at hbf m3
          generalize IntKind.u16.wrap (R0.ip + L.length) = X0 at m3
          clear HBF8
          have HBF8 := Lib.hid hbf
          have HMR := Lib.hid m3
          clear m1 m2 m3 hbf
          have c27 : w8.cell? ⟨C.b, 27, none⟩ = some (.pointer (some ⟨C.wb, 0, none⟩)) := (HP8.out.o.row.cell 27).trans (mcell27 C _)
          have hw := HP8.out.o.wor
          rw [HEV.out] at hw
          go_wp2_with fail
          refine (events_any _ _ _ _ _ hw).mono ?_
          rintro e w9 ⟨v9, rfl, hq, hb9⟩; dsimp only
          have HP9 := Lib.hid (HP8.out.below hb9)
          have HBF9 := Lib.hid (HBF8.out.below hb9)
          have HQ9 := Lib.hid hq
          obtain ⟨g9, c9, cur9, rfl, hrow9⟩ : ∃ (g : Nat) (c : Nat) (cur : Array Value), v9 = .slice (some ⟨g, 0, none⟩) 1 c ∧ Row w9 g cur 67 := by
            rcases hq.2 with ⟨_, h0⟩ | ⟨g, cap, cur, hv, _, hh, _⟩
            · cases h0
            · exact ⟨g, cap, cur, hv, hh⟩
          have e9 : w9.cell? ⟨g9, 0, none⟩ = some (.int .i64 5) := HQ9.out.cells (g := g9) rfl 0 _ rfl
          have HROW9 := Lib.hid hrow9
          have HE9 := Lib.hid e9
          clear hrow9 e9
          clear c27 hw hq hb9
          have xr := HP9.out.r.row.cell
          have q0 : w9.cell? ⟨C.b, 0, none⟩ = some (.int .u16 R0.g0.v) := (HP9.out.o.row.cell 0).trans (show some (Value.int .u16 M.r.g0.v) = _ by rw [HMR.out])
          have q1 : w9.cell? ⟨C.b, 1, none⟩ = some (.bool R0.g0.t) := (HP9.out.o.row.cell 1).trans (show some (Value.bool M.r.g0.t) = _ by rw [HMR.out])
          have q2 : w9.cell? ⟨C.b, 2, none⟩ = some (.int .u16 R0.g1.v) := (HP9.out.o.row.cell 2).trans (show some (Value.int .u16 M.r.g1.v) = _ by rw [HMR.out])
          have q3 : w9.cell? ⟨C.b, 3, none⟩ = some (.bool R0.g1.t) := (HP9.out.o.row.cell 3).trans (show some (Value.bool M.r.g1.t) = _ by rw [HMR.out])
          have q4 : w9.cell? ⟨C.b, 4, none⟩ = some (.int .u16 R0.g2.v) := (HP9.out.o.row.cell 4).trans (show some (Value.int .u16 M.r.g2.v) = _ by rw [HMR.out])
          have q5 : w9.cell? ⟨C.b, 5, none⟩ = some (.bool R0.g2.t) := (HP9.out.o.row.cell 5).trans (show some (Value.bool M.r.g2.t) = _ by rw [HMR.out])
          have q6 : w9.cell? ⟨C.b, 6, none⟩ = some (.int .u16 R0.g3.v) := (HP9.out.o.row.cell 6).trans (show some (Value.int .u16 M.r.g3.v) = _ by rw [HMR.out])
          have q7 : w9.cell? ⟨C.b, 7, none⟩ = some (.bool R0.g3.t) := (HP9.out.o.row.cell 7).trans (show some (Value.bool M.r.g3.t) = _ by rw [HMR.out])
          have q8 : w9.cell? ⟨C.b, 8, none⟩ = some (.int .u16 R0.g4.v) := (HP9.out.o.row.cell 8).trans (show some (Value.int .u16 M.r.g4.v) = _ by rw [HMR.out])
          have q9 : w9.cell? ⟨C.b, 9, none⟩ = some (.bool R0.g4.t) := (HP9.out.o.row.cell 9).trans (show some (Value.bool M.r.g4.t) = _ by rw [HMR.out])
          have q10 : w9.cell? ⟨C.b, 10, none⟩ = some (.int .u16 R0.g5.v) := (HP9.out.o.row.cell 10).trans (show some (Value.int .u16 M.r.g5.v) = _ by rw [HMR.out])
          have q11 : w9.cell? ⟨C.b, 11, none⟩ = some (.bool R0.g5.t) := (HP9.out.o.row.cell 11).trans (show some (Value.bool M.r.g5.t) = _ by rw [HMR.out])
          have q12 : w9.cell? ⟨C.b, 12, none⟩ = some (.int .u16 R0.g6.v) := (HP9.out.o.row.cell 12).trans (show some (Value.int .u16 M.r.g6.v) = _ by rw [HMR.out])
          have q13 : w9.cell? ⟨C.b, 13, none⟩ = some (.bool R0.g6.t) := (HP9.out.o.row.cell 13).trans (show some (Value.bool M.r.g6.t) = _ by rw [HMR.out])
          have q14 : w9.cell? ⟨C.b, 14, none⟩ = some (.int .u16 R0.g7.v) := (HP9.out.o.row.cell 14).trans (show some (Value.int .u16 M.r.g7.v) = _ by rw [HMR.out])
          have q15 : w9.cell? ⟨C.b, 15, none⟩ = some (.bool R0.g7.t) := (HP9.out.o.row.cell 15).trans (show some (Value.bool M.r.g7.t) = _ by rw [HMR.out])
          cases wd with
          | true =>
            have hno2 : v = 0 ∨ 65535 < (r.g0.v + 65536 * r.g2.v) / v := hno
            have HNO := Lib.hid hno2
            clear hno hno2
            go_upto_region 27 with fail
            rcases HNO.out with hz | hgt
            · as_aux_lemma => (have vb : (v == 0) = true := (by simp [hz]); clear hz; go_upto_region 28 with fail; refine range_of (w9) ?_; intro S inst ω hin hout; have e9 := range_cell hin HE9.out; have z0 := range_cell hin q0; have z1 := range_cell hin q1; have z2 := range_cell hin q2; have z3 := range_cell hin q3; have z4 := range_cell hin q4; have z5 := range_cell hin q5; have z6 := range_cell hin q6; have z7 := range_cell hin q7; have z8 := range_cell hin q8; have z9 := range_cell hin q9; have z10 := range_cell hin q10; have z11 := range_cell hin q11; have z12 := range_cell hin q12; have z13 := range_cell hin q13; have z14 := range_cell hin q14; have z15 := range_cell hin q15; have rb9 := range_row hin HBF9.out.row; have k1 := range_call hin hout awake_any; have k2 := range_calls hin hout (fun w hw => (state_any w C lv8 _ (HP9.out.o.below hw)).mono (by rintro e w' ⟨rfl, rfl⟩; exact ⟨rfl, Below.refl _ _⟩)); rw [HST.out] at k2; have eq8 := eq_A8 9997; clear q0 q1 q2 q3 q4 q5 q6 q7 q8 q9 q10 q11 q12 q13 q14 q15 xr; refine wp_region_range_lit ω (by kernel_rfl) (by kernel_rfl) (hout _ (Below.refl _ _).drew) ?_; (repeat (go_big_quiet_step (first | (with_reducible exact k1 _) | (with_reducible exact k2 _)))); refine wpQuiet_nil ?_; intro _ hw'; obtain ⟨nq, rfl⟩ := hw'; go_wp2_with fail; go_ret; exact ⟨rfl, HP9.out.b.trans ((hin nq).mono HP9.out.b.size)⟩)
            · have hz : ¬ v = 0 := by intro e; rw [e, Int.ediv_zero] at hgt; omega
              as_aux_lemma => (have vb : (v == 0) = false := (by simp [hz]); go_upto_region 28 with fail; refine range_of (w9) ?_; intro S inst ω hin hout; have e9 := range_cell hin HE9.out; have z0 := range_cell hin q0; have z1 := range_cell hin q1; have z2 := range_cell hin q2; have z3 := range_cell hin q3; have z4 := range_cell hin q4; have z5 := range_cell hin q5; have z6 := range_cell hin q6; have z7 := range_cell hin q7; have z8 := range_cell hin q8; have z9 := range_cell hin q9; have z10 := range_cell hin q10; have z11 := range_cell hin q11; have z12 := range_cell hin q12; have z13 := range_cell hin q13; have z14 := range_cell hin q14; have z15 := range_cell hin q15; have rb9 := range_row hin HBF9.out.row; have k1 := range_call hin hout awake_any; have k2 := range_calls hin hout (fun w hw => (state_any w C lv8 _ (HP9.out.o.below hw)).mono (by rintro e w' ⟨rfl, rfl⟩; exact ⟨rfl, Below.refl _ _⟩)); rw [HST.out] at k2; have eq8 := eq_A8 9997; clear q0 q1 q2 q3 q4 q5 q6 q7 q8 q9 q10 q11 q12 q13 q14 q15 xr; refine wp_region_range_lit ω (by kernel_rfl) (by kernel_rfl) (hout _ (Below.refl _ _).drew) ?_; (repeat (go_big_quiet_step (first | (with_reducible exact k1 _) | (with_reducible exact k2 _)))); refine wpQuiet_nil ?_; intro _ hw'; obtain ⟨nq, rfl⟩ := hw'; go_wp2_with fail; go_ret; exact ⟨rfl, HP9.out.b.trans ((hin nq).mono HP9.out.b.size)⟩)
          | false =>
            have hno2 : v = 0 ∨ 255 < r.g0.v / v := hno
            have HNO := Lib.hid hno2
            clear hno hno2
            go_upto_region 27 with fail
            rcases HNO.out with hz | hgt
            · as_aux_lemma => (have vb : (v == 0) = true := (by simp [hz]); clear hz; go_upto_region 28 with fail; refine range_of (w9) ?_; intro S inst ω hin hout; have e9 := range_cell hin HE9.out; have z0 := range_cell hin q0; have z1 := range_cell hin q1; have z2 := range_cell hin q2; have z3 := range_cell hin q3; have z4 := range_cell hin q4; have z5 := range_cell hin q5; have z6 := range_cell hin q6; have z7 := range_cell hin q7; have z8 := range_cell hin q8; have z9 := range_cell hin q9; have z10 := range_cell hin q10; have z11 := range_cell hin q11; have z12 := range_cell hin q12; have z13 := range_cell hin q13; have z14 := range_cell hin q14; have z15 := range_cell hin q15; have rb9 := range_row hin HBF9.out.row; have k1 := range_call hin hout awake_any; have k2 := range_calls hin hout (fun w hw => (state_any w C lv8 _ (HP9.out.o.below hw)).mono (by rintro e w' ⟨rfl, rfl⟩; exact ⟨rfl, Below.refl _ _⟩)); rw [HST.out] at k2; have eq8 := eq_A8 9997; clear q0 q1 q2 q3 q4 q5 q6 q7 q8 q9 q10 q11 q12 q13 q14 q15 xr; refine wp_region_range_lit ω (by kernel_rfl) (by kernel_rfl) (hout _ (Below.refl _ _).drew) ?_; (repeat (go_big_quiet_step (first | (with_reducible exact k1 _) | (with_reducible exact k2 _)))); refine wpQuiet_nil ?_; intro _ hw'; obtain ⟨nq, rfl⟩ := hw'; go_wp2_with fail; go_ret; exact ⟨rfl, HP9.out.b.trans ((hin nq).mono HP9.out.b.size)⟩)
            · have hz : ¬ v = 0 := by intro e; rw [e, Int.ediv_zero] at hgt; omega
              as_aux_lemma => (have vb : (v == 0) = false := (by simp [hz]); go_upto_region 28 with fail; refine range_of (w9) ?_; intro S inst ω hin hout; have e9 := range_cell hin HE9.out; have z0 := range_cell hin q0; have z1 := range_cell hin q1; have z2 := range_cell hin q2; have z3 := range_cell hin q3; have z4 := range_cell hin q4; have z5 := range_cell hin q5; have z6 := range_cell hin q6; have z7 := range_cell hin q7; have z8 := range_cell hin q8; have z9 := range_cell hin q9; have z10 := range_cell hin q10; have z11 := range_cell hin q11; have z12 := range_cell hin q12; have z13 := range_cell hin q13; have z14 := range_cell hin q14; have z15 := range_cell hin q15; have rb9 := range_row hin HBF9.out.row; have k1 := range_call hin hout awake_any; have k2 := range_calls hin hout (fun w hw => (state_any w C lv8 _ (HP9.out.o.below hw)).mono (by rintro e w' ⟨rfl, rfl⟩; exact ⟨rfl, Below.refl _ _⟩)); rw [HST.out] at k2; have eq8 := eq_A8 9997; clear q0 q1 q2 q3 q4 q5 q6 q7 q8 q9 q10 q11 q12 q13 q14 q15 xr; refine wp_region_range_lit ω (by kernel_rfl) (by kernel_rfl) (hout _ (Below.refl _ _).drew) ?_; (repeat (go_big_quiet_step (first | (with_reducible exact k1 _) | (with_reducible exact k2 _)))); refine wpQuiet_nil ?_; intro _ hw'; obtain ⟨nq, rfl⟩ := hw'; go_wp2_with fail; go_ret; exact ⟨rfl, HP9.out.b.trans ((hin nq).mono HP9.out.b.size)⟩)
        · obtain ⟨m1, m2, m3⟩ := div88_yes r hr L L.length v wd hv0 hv.2 hz hle
          generalize prodM ((begun r L).on L.length) 88 v wd = M at HP8 m1 m2 m3
          have HST := Lib.hid m1
          have HEV := Lib.hid m2
          have s0 : 0 ≤ numN r wd % v := Int.emod_nonneg _ hz
          have s1 : numN r wd % v < v := Int.emod_lt_of_pos _ (by omega)
          have q0 : 0 ≤ numN r wd / v := Int.ediv_nonneg (by unfold numN; cases wd <;> simp <;> omega) hv0
          obtain ⟨Q, hQ⟩ : ∃ Q, numN r wd / v = Q := ⟨_, rfl⟩
          obtain ⟨S, hS⟩ : ∃ S, numN r wd % v = S := ⟨_, rfl⟩
          rw [hQ] at m3 hle q0
          rw [hS] at m3 s0 s1
          have HMR := Lib.hid m3
          clear m1 m2 m3
          have c27 : w8.cell? ⟨C.b, 27, none⟩ = some (.pointer (some ⟨C.wb, 0, none⟩)) := (HP8.out.o.row.cell 27).trans (mcell27 C _)
          have hw := HP8.out.o.wor
          rw [HEV.out] at hw
          go_wp2_with fail
          refine (events_any _ _ _ _ _ hw).mono ?_
          rintro e w9 ⟨v9, rfl, hq, hb9⟩; dsimp only
          have HP9 := Lib.hid (HP8.out.below hb9)
          have HBF9 := Lib.hid (HBF8.out.below hb9)
          obtain ⟨o9, c9, rfl⟩ : ∃ (o : Option Addr) (c : Nat), v9 = .slice o 0 c := by
            rcases hq.2 with ⟨hv, _⟩ | ⟨g, cap, _, hv, _⟩
            · exact ⟨none, 0, hv⟩
            · exact ⟨some ⟨g, 0, none⟩, cap, hv⟩
          clear c27 hw hq hb9
          have xr := HP9.out.r.row.cell
          cases wd with
          | true =>
            have hq : (r.g0.v + 65536 * r.g2.v) / v = Q := hQ
            have hs : (r.g0.v + 65536 * r.g2.v) % v = S := hS
            have hle2 : ¬ 65535 < Q := by have h := hle; unfold limW at h; simp at h; omega
            have vb : (v == 0) = false := by simp [hz]
            have c0 : w9.cell? ⟨C.b, 0, none⟩ = some (.int .u16 Q) := (HP9.out.o.row.cell 0).trans (show some (Value.int .u16 M.r.g0.v) = _ by rw [HMR.out]; rfl)
            have c4 : w9.cell? ⟨C.b, 4, none⟩ = some (.int .u16 S) := (HP9.out.o.row.cell 4).trans (show some (Value.int .u16 M.r.g2.v) = _ by rw [HMR.out]; rfl)
            clear hQ hS hle hv
            as_aux_lemma => (go_upto_region 29 with fail; refine range_of (w9) ?_; intro S inst ω hin hout; have k1 := range_call hin hout awake_any; have k2 := range_calls hin hout (fun w hw => (state_any w C lv8 _ (HP9.out.o.below hw)).mono (by rintro e w' ⟨rfl, rfl⟩; exact ⟨rfl, Below.refl _ _⟩)); rw [HST.out] at k2; refine wp_region_range_lit ω (by kernel_rfl) (by kernel_rfl) (hout _ (Below.refl _ _).drew) ?_; (repeat (go_big_quiet_step (first | (with_reducible exact k1 _) | (with_reducible exact k2 _)))); refine wpQuiet_nil ?_; intro _ hw'; obtain ⟨nq, rfl⟩ := hw'; go_wp2_with fail; go_ret; (first | exact ⟨rfl, HP9.out.b.trans ((hin nq).mono HP9.out.b.size)⟩ | exact ⟨retB (by simp [hq, hs]), HP9.out.b.trans ((hin nq).mono HP9.out.b.size)⟩))
          | false =>
            have hq : r.g0.v / v = Q := hQ
            have hs : r.g0.v % v = S := hS
            have hle2 : ¬ 255 < Q := by have h := hle; unfold limW at h; simp at h; omega
            have v255 : v ≤ 255 := hv.2
            have vb : (v == 0) = false := by simp [hz]
            have c0 : w9.cell? ⟨C.b, 0, none⟩ = some (.int .u16 (Q + S * 256)) := (HP9.out.o.row.cell 0).trans (show some (Value.int .u16 M.r.g0.v) = _ by rw [HMR.out, Int.mul_comm S]; rfl)
            clear hQ hS hle hv
            as_aux_lemma => (go_upto_region 29 with fail; refine range_of (w9) ?_; intro S inst ω hin hout; have k1 := range_call hin hout awake_any; have k2 := range_calls hin hout (fun w hw => (state_any w C lv8 _ (HP9.out.o.below hw)).mono (by rintro e w' ⟨rfl, rfl⟩; exact ⟨rfl, Below.refl _ _⟩)); rw [HST.out] at k2; refine wp_region_range_lit ω (by kernel_rfl) (by kernel_rfl) (hout _ (Below.refl _ _).drew) ?_; (repeat (go_big_quiet_step (first | (with_reducible exact k1 _) | (with_reducible exact k2 _)))); refine wpQuiet_nil ?_; intro _ hw'; obtain ⟨nq, rfl⟩ := hw'; go_wp2_with fail; go_ret; (first | exact ⟨rfl, HP9.out.b.trans ((hin nq).mono HP9.out.b.size)⟩ | exact ⟨retB (by simp [hq, hs]), HP9.out.b.trans ((hin nq).mono HP9.out.b.size)⟩))
      · as_aux_lemma =>
        obtain ⟨⟨q, s, ok⟩, hd⟩ : ∃ D, divV 89 (if wd then r.g0.v else r.g0.v % 256) (if wd then r.g2.v else r.g0.v / 256) v wd = D := ⟨_, rfl⟩
        have hok : ok = true ∨ ok = false := by cases ok <;> simp
        rcases hok with rfl | rfl
        · obtain ⟨m1, m2, _⟩ := div_yes r L L.length 89 v wd (Or.inr rfl) q s hd
          generalize prodM ((begun r L).on L.length) 89 v wd = M at HP8 m1 m2
          have HST := Lib.hid m1
          have HEV := Lib.hid m2
          clear m1 m2 hd
          have c27 : w8.cell? ⟨C.b, 27, none⟩ = some (.pointer (some ⟨C.wb, 0, none⟩)) := (HP8.out.o.row.cell 27).trans (mcell27 C _)
          have hw := HP8.out.o.wor
          rw [HEV.out] at hw
          go_wp2_with fail
          refine (events_any _ _ _ _ _ hw).mono ?_
          rintro e w9 ⟨v9, rfl, hq, hb9⟩; dsimp only
          have HP9 := Lib.hid (HP8.out.below hb9)
          have HBF9 := Lib.hid (HBF8.out.below hb9)
          obtain ⟨o9, c9, rfl⟩ : ∃ (o : Option Addr) (c : Nat), v9 = .slice o 0 c := by
            rcases hq.2 with ⟨hv, _⟩ | ⟨g, cap, _, hv, _⟩
            · exact ⟨none, 0, hv⟩
            · exact ⟨some ⟨g, 0, none⟩, cap, hv⟩
          clear c27 hw hq hb9
          have xr := HP9.out.r.row.cell
          go_upto_region 12 with fail
          go_wp2_with fail
          refine (awake_any _).mono ?_
          rintro e w10 ⟨rfl, hb10⟩; dsimp only
          have HP10 := Lib.hid (HP9.out.below hb10)
          clear hb10
          go_wp2_with fail
          refine (state_any _ _ _ _ HP10.out.o).mono ?_
          rw [HST.out]
          rintro e w' ⟨rfl, rfl⟩; dsimp only
          go_wp2_with fail
          go_ret
          exact ⟨rfl, HP10.out.b⟩
        · obtain ⟨m1, m2, _⟩ := div_no r L L.length 89 v wd (Or.inr rfl) q s hd
          generalize prodM ((begun r L).on L.length) 89 v wd = M at HP8 m1 m2
          have HST := Lib.hid m1
          have HEV := Lib.hid m2
          clear m1 m2 hd
          have c27 : w8.cell? ⟨C.b, 27, none⟩ = some (.pointer (some ⟨C.wb, 0, none⟩)) := (HP8.out.o.row.cell 27).trans (mcell27 C _)
          have hw := HP8.out.o.wor
          rw [HEV.out] at hw
          go_wp2_with fail
          refine (events_any _ _ _ _ _ hw).mono ?_
          rintro e w9 ⟨v9, rfl, hq, hb9⟩; dsimp only
          have HP9 := Lib.hid (HP8.out.below hb9)
          have HBF9 := Lib.hid (HBF8.out.below hb9)
          have HQ9 := Lib.hid hq
          obtain ⟨g9, c9, cur9, rfl, hrow9⟩ : ∃ (g : Nat) (c : Nat) (cur : Array Value), v9 = .slice (some ⟨g, 0, none⟩) 1 c ∧ Row w9 g cur 67 := by
            rcases hq.2 with ⟨_, h0⟩ | ⟨g, cap, cur, hv, _, hh, _⟩
            · cases h0
            · exact ⟨g, cap, cur, hv, hh⟩
          have e9 : w9.cell? ⟨g9, 0, none⟩ = some (.int .i64 5) := HQ9.out.cells (g := g9) rfl 0 _ rfl
          have HROW9 := Lib.hid hrow9
          have HE9 := Lib.hid e9
          clear hrow9 e9
          clear c27 hw hq hb9
          have xr := HP9.out.r.row.cell
          go_upto_region 12 with fail
          go_wp2_with fail
          refine (awake_any _).mono ?_
          rintro e w10 ⟨rfl, hb10⟩; dsimp only
          have HP10 := Lib.hid (HP9.out.below hb10)
          have r10 := Below.row hb10 HROW9.out HROW9.out.lt
          have e10 : w10.cell? ⟨g9, 0, none⟩ = some (.int .i64 5) := (r10.cell 0).trans ((HROW9.out.cell 0).symm.trans HE9.out)
          have xr10 := HP10.out.r.row.cell
          clear hb10 r10 xr
          go_wp2_with fail
          refine (state_any _ _ _ _ HP10.out.o).mono ?_
          rw [HST.out]
          rintro e w' ⟨rfl, rfl⟩; dsimp only
          go_wp2_with fail
          refine (state_any _ _ _ _ HP10.out.o).mono ?_
          rw [HST.out]
          rintro e w' ⟨rfl, rfl⟩; dsimp only
          go_wp2_with fail
          go_ret
          exact ⟨rfl, HP10.out.b⟩
end Go.Proofs.YtcglkefaopgjeaaGreatDoor
