/- The law FlowLoops. -/
import Derived.Test.YtcglkefaopgjeaaDoorG3
import Derived.Test.YtcglkefaopgjeaaDoorE5
import Derived.Deep.DeepCutAuto
namespace Go.Proofs.YtcglkefaopgjeaaDoor
set_option linter.unusedSimpArgs false
set_option linter.unusedVariables false
open Go.RowKit

def leftOf (name cx : Int) : Int := if name = 77 then cx else IntKind.u16.wrap (cx - 1)
def goesOf (name cx : Int) (z : Bool) : Bool := if name = 77 then cx == 0 else (IntKind.u16.wrap (cx - 1) != 0) && (name == 76 || z == (name == 75))
theorem loop_ip (m : Mach) (name n : Int) : (m.loop name n).r.ip = if goesOf name m.r.g1.v (fl m.r.f 64) then IntKind.u16.wrap (m.r.ip + n) else m.r.ip := by
  unfold Mach.loop goesOf
  by_cases h77 : name = 77
  · subst h77
    by_cases h0 : m.r.g1.v = 0
    · rw [if_pos rfl, if_pos h0, if_pos rfl, if_pos (by simpa using h0)]; rfl
    · rw [if_pos rfl, if_neg h0, if_pos rfl, if_neg (by simpa using h0)]
  · rw [if_neg h77, if_neg h77]
    dsimp only
    by_cases hc : IntKind.u16.wrap (m.r.g1.v - 1) ≠ 0 ∧ (name = 76 ∨ fl m.r.f 64 = decide (name = 75))
    · rw [if_pos hc, if_pos]
      · rfl
      · obtain ⟨h1, h2⟩ := hc
        simp only [Bool.and_eq_true, bne_iff_ne, ne_eq, Bool.or_eq_true, beq_iff_eq]
        refine ⟨h1, h2.imp id fun h => ?_⟩
        rw [h]
        by_cases h5 : name = 75 <;> simp [h5]
    · rw [if_neg hc, if_neg]
      · rfl
      · intro hx
        simp only [Bool.and_eq_true, bne_iff_ne, ne_eq, Bool.or_eq_true, beq_iff_eq] at hx
        refine hc ⟨hx.1, hx.2.imp id fun h => ?_⟩
        rw [h]
        by_cases h5 : name = 75 <;> simp [h5]
theorem loop_cx (m : Mach) (name n : Int) : (m.loop name n).r.g1.v = leftOf name m.r.g1.v := by
  unfold Mach.loop leftOf
  by_cases h77 : name = 77
  · rw [if_pos h77, if_pos h77]
    split <;> rfl
  · rw [if_neg h77, if_neg h77]
    dsimp only
    split <;> rfl

/-- What the law knows of its machine before it runs. -/
def LoopIn (C : Phys) (w : World) (r : Regs) (wx : World) : Prop := ∃ lv R, Own wx C lv { begun r with r := R } ∧ R.g1.t = false ∧ R.ip = r.ip ∧ R.f = r.f ∧ Below w.heap.size w wx ∧ (∀ k, k < w.heap.size → ¬ C.own lv k) ∧ Box C lv wx w.heap.size r.cells 31
theorem Regs.g1_wf {r : Regs} (h : r.wf) {x : V} (hx : x.wf) : ({ r with g1 := x } : Regs).wf := { h with g1 := hx }

set_option maxRecDepth 100000 in
set_option maxHeartbeats 6400000 in
theorem flowLoops_any (r : Regs) (hr : r.wf) (n by' : Int) (w : World) (nn : Nat) (hnn : bits .and .i64 n 3 = (nn : Int)) (nm : Int) (hnm : IntKind.i64.wrap (74 + (nn : Int)) = nm) (hn4 : nm = 74 ∨ nm = 75 ∨ nm = 76 ∨ nm = 77) (b4 : Bool) (hb4 : decide (0 < bits .and .i64 n 4) = b4) :
    Calls Tryd.prog 5 #[r.val, .int .i64 n, .int .u16 by'] w fun e w' => e = .returned (.bool true) ∧ Below w.heap.size w w' := by
  have hz := and_pos r.f 64 hr.f.1 hr.f.2 (by decide) (by decide)
  obtain ⟨zb, hzb⟩ : ∃ zb, fl r.f 64 = zb := ⟨_, rfl⟩
  rw [hzb] at hz
  have HZ := Lib.hid hzb
  clear hzb
  go_enter Tryd.func5, Tryd.ntmps5
  go_wp2_with fail
  refine (begin_any _ r hr).mono ?_
  rintro e w1 ⟨C, lv, rfl, ho, hb1, hn⟩; dsimp only
  have HO1 := Lib.hid ho
  have HR1 := Lib.hid (fresh_box hb1 hn (Row.new w r.cells 31))
  have HB1 := Lib.hid (below_past hb1)
  have HN := Lib.hid (fun k (hk : k < w.heap.size) => hn k (by simp; omega))
  have sc := HO1.out.sees.c; have sf := HO1.out.sees.f; have sr := HO1.out.sees.r; have ss := HO1.out.sees.s; have sl := HO1.out.sees.l
  clear ho hb1 hn
  go_upto_if 22 with fail
  go_cut [9] (fun s9 wx => LoopIn C w r wx)
  case first =>
    cases b4 with
    | false =>
      go_wp2_with fail
      go_meet
      exact ⟨lv, beginR r, HO1.out, rfl, rfl, rfl, HB1.out, HN.out, HR1.out⟩
    | true =>
      go_wp2_with fail
      clear sc sf sr ss sl
      have hwf := Regs.g1_wf (beginR_wf hr) (x := ⟨IntKind.u16.wrap (bits .and .i64 (n / 8) 1), false⟩) ⟨wrap16_lo _, wrap16_hi _⟩
      refine (set_any _ _ _ _ (HO1.out.alloc _) _ hwf).mono ?_
      rintro e w2 ⟨rfl, lv2, h2, f2, k2⟩; dsimp only
      have HR2 := Lib.hid ((HR1.out.alloc _).step f2 k2)
      have HB2 := Lib.hid (below_step (HB1.out.alloc HB1.out.size _) f2 HN.out)
      have HN2 := Lib.hid (own_lv HN.out k2 (by have := HB1.out.size; simp; omega))
      have H2 := Lib.hid h2
      clear h2 f2 k2
      go_wp2_with fail
      go_meet
      exact ⟨lv2, _, H2.out, rfl, rfl, rfl, HB2.out, HN2.out, HR2.out⟩
  case rest =>
    obtain ⟨lv2, R, h2, ht, hip, hf, hb2, hn2, hx2⟩ := hcut
    have HO2 := Lib.hid h2
    have HT := Lib.hid ht
    have HB2 := Lib.hid hb2
    have HN2 := Lib.hid hn2
    have HX2 := Lib.hid hx2
    have HIP := Lib.hid hip
    have HF := Lib.hid hf
    clear sc sf sr ss sl
    have sc := HO2.out.sees.c; have sf := HO2.out.sees.f; have sr := HO2.out.sees.r; have ss := HO2.out.sees.s; have sl := HO2.out.sees.l
    obtain ⟨xc, xf, xr, xs, xl⟩ := hx2.row.sees
    clear h2 ht hip hf hb2 hn2 hx2 hb4
    obtain ⟨cx, hcx⟩ : ∃ cx, R.g1.v = cx := ⟨_, rfl⟩
    have c2 : wc.cell? ⟨C.b, 2, none⟩ = some (.int .u16 cx) := by rw [sc, mcell2]; exact congrArg _ (congrArg _ hcx)
    have HCX := Lib.hid hcx
    clear sc hcx
    go_wp2_with fail
    refine (do_loop _ _ _ _ HO2.out ⟨false, 0, 0, 0, 0, 0, 0, 0, 0, 0⟩ ⟨nm, 9, 0, false⟩ by' zV (by show 74 ≤ nm; omega) (by show nm ≤ 77; omega) HT.out).mono ?_
    rintro e w3 ⟨rfl, lv3, h3, f3, k3⟩; dsimp only
    have hx3 := HX2.out.step f3 k3
    have HB3 := Lib.hid (below_step HB2.out f3 HN2.out)
    have d24 : w3.cell? ⟨C.b, 24, none⟩ = some (.int .u16 (if goesOf nm cx zb then IntKind.u16.wrap (r.ip + by') else r.ip)) := by
      rw [(h3.row.cell 24), mcell24, loop_ip]
      show some (Value.int .u16 (if goesOf nm R.g1.v (fl R.f 64) then IntKind.u16.wrap (R.ip + by') else R.ip)) = _
      rw [HCX.out, HF.out, HZ.out, HIP.out]
    have d2 : w3.cell? ⟨C.b, 2, none⟩ = some (.int .u16 (leftOf nm cx)) := by
      rw [(h3.row.cell 2), mcell2, loop_cx]
      show some (Value.int .u16 (leftOf nm R.g1.v)) = _
      rw [HCX.out]
    clear sf sr ss sl c2 xc xf xr xs xl h3 f3 k3
    obtain ⟨xc, xf, xr, xs, xl⟩ := hx3.row.sees
    clear hx3
    have fin : ∀ (k : Nat), k = w3.heap.size → True := fun _ _ => trivial
    clear hnm hnn
    obtain ⟨l1, hl1⟩ : ∃ l1, IntKind.u16.wrap (cx - 1) = l1 := ⟨_, rfl⟩
    rcases hn4 with rfl | rfl | rfl | rfl
    · by_cases z0 : l1 = 0
      · subst z0
        cases zb
        all_goals
          rw [show goesOf 74 cx _ = false from by simp [goesOf, hl1]] at d24; rw [show leftOf 74 cx = 0 from by simp [leftOf, hl1]] at d2
          go_wp2_with fail
          refine (awake_any _).mono ?_
          rintro e w4 ⟨rfl, hb4⟩; dsimp only
          have e24 := (hb4.cell (World.block_lt_of_cell? _ _ d24)).trans d24
          have e2 := (hb4.cell (World.block_lt_of_cell? _ _ d2)).trans d2
          have HB4 := Lib.hid (HB3.out.trans (hb4.mono HB3.out.size))
          clear d24 d2 hb4
          go_wp2_with fail
          go_ret
          exact ⟨rfl, HB4.out⟩
      · have z1 : (l1 != 0) = true := by simpa using z0
        clear z0
        cases zb
        · rw [show goesOf 74 cx false = true from by simp [goesOf, hl1, z1]] at d24; rw [show leftOf 74 cx = l1 from by simp [leftOf, hl1]] at d2
          go_wp2_with fail
          refine (awake_any _).mono ?_
          rintro e w4 ⟨rfl, hb4⟩; dsimp only
          have e24 := (hb4.cell (World.block_lt_of_cell? _ _ d24)).trans d24
          have e2 := (hb4.cell (World.block_lt_of_cell? _ _ d2)).trans d2
          have HB4 := Lib.hid (HB3.out.trans (hb4.mono HB3.out.size))
          clear d24 d2 hb4
          go_wp2_with fail
          go_ret
          exact ⟨rfl, HB4.out⟩
        · rw [show goesOf 74 cx true = false from by simp [goesOf, hl1, z1]] at d24; rw [show leftOf 74 cx = l1 from by simp [leftOf, hl1]] at d2
          go_wp2_with fail
          refine (awake_any _).mono ?_
          rintro e w4 ⟨rfl, hb4⟩; dsimp only
          have e24 := (hb4.cell (World.block_lt_of_cell? _ _ d24)).trans d24
          have e2 := (hb4.cell (World.block_lt_of_cell? _ _ d2)).trans d2
          have HB4 := Lib.hid (HB3.out.trans (hb4.mono HB3.out.size))
          clear d24 d2 hb4
          go_wp2_with fail
          go_ret
          exact ⟨rfl, HB4.out⟩
    · by_cases z0 : l1 = 0
      · subst z0
        cases zb
        all_goals
          rw [show goesOf 75 cx _ = false from by simp [goesOf, hl1]] at d24; rw [show leftOf 75 cx = 0 from by simp [leftOf, hl1]] at d2
          go_wp2_with fail
          refine (awake_any _).mono ?_
          rintro e w4 ⟨rfl, hb4⟩; dsimp only
          have e24 := (hb4.cell (World.block_lt_of_cell? _ _ d24)).trans d24
          have e2 := (hb4.cell (World.block_lt_of_cell? _ _ d2)).trans d2
          have HB4 := Lib.hid (HB3.out.trans (hb4.mono HB3.out.size))
          clear d24 d2 hb4
          go_wp2_with fail
          go_ret
          exact ⟨rfl, HB4.out⟩
      · have z1 : (l1 != 0) = true := by simpa using z0
        clear z0
        cases zb
        · rw [show goesOf 75 cx false = false from by simp [goesOf, hl1, z1]] at d24; rw [show leftOf 75 cx = l1 from by simp [leftOf, hl1]] at d2
          go_wp2_with fail
          refine (awake_any _).mono ?_
          rintro e w4 ⟨rfl, hb4⟩; dsimp only
          have e24 := (hb4.cell (World.block_lt_of_cell? _ _ d24)).trans d24
          have e2 := (hb4.cell (World.block_lt_of_cell? _ _ d2)).trans d2
          have HB4 := Lib.hid (HB3.out.trans (hb4.mono HB3.out.size))
          clear d24 d2 hb4
          go_wp2_with fail
          go_ret
          exact ⟨rfl, HB4.out⟩
        · rw [show goesOf 75 cx true = true from by simp [goesOf, hl1, z1]] at d24; rw [show leftOf 75 cx = l1 from by simp [leftOf, hl1]] at d2
          go_wp2_with fail
          refine (awake_any _).mono ?_
          rintro e w4 ⟨rfl, hb4⟩; dsimp only
          have e24 := (hb4.cell (World.block_lt_of_cell? _ _ d24)).trans d24
          have e2 := (hb4.cell (World.block_lt_of_cell? _ _ d2)).trans d2
          have HB4 := Lib.hid (HB3.out.trans (hb4.mono HB3.out.size))
          clear d24 d2 hb4
          go_wp2_with fail
          go_ret
          exact ⟨rfl, HB4.out⟩
    · by_cases z0 : l1 = 0
      · subst z0
        rw [show goesOf 76 cx _ = false from by simp [goesOf, hl1]] at d24; rw [show leftOf 76 cx = 0 from by simp [leftOf, hl1]] at d2
        go_wp2_with fail
        refine (awake_any _).mono ?_
        rintro e w4 ⟨rfl, hb4⟩; dsimp only
        have e24 := (hb4.cell (World.block_lt_of_cell? _ _ d24)).trans d24
        have e2 := (hb4.cell (World.block_lt_of_cell? _ _ d2)).trans d2
        have HB4 := Lib.hid (HB3.out.trans (hb4.mono HB3.out.size))
        clear d24 d2 hb4
        go_wp2_with fail
        go_ret
        exact ⟨rfl, HB4.out⟩
      · have z1 : (l1 != 0) = true := by simpa using z0
        clear z0
        rw [show goesOf 76 cx zb = true from by simp [goesOf, hl1, z1]] at d24; rw [show leftOf 76 cx = l1 from by simp [leftOf, hl1]] at d2
        go_wp2_with fail
        refine (awake_any _).mono ?_
        rintro e w4 ⟨rfl, hb4⟩; dsimp only
        have e24 := (hb4.cell (World.block_lt_of_cell? _ _ d24)).trans d24
        have e2 := (hb4.cell (World.block_lt_of_cell? _ _ d2)).trans d2
        have HB4 := Lib.hid (HB3.out.trans (hb4.mono HB3.out.size))
        clear d24 d2 hb4
        go_wp2_with fail
        go_ret
        exact ⟨rfl, HB4.out⟩
    · by_cases z0 : cx = 0
      · subst z0
        rw [show goesOf 77 0 _ = true from by simp [goesOf]] at d24; rw [show leftOf 77 0 = 0 from by simp [leftOf]] at d2
        go_wp2_with fail
        refine (awake_any _).mono ?_
        rintro e w4 ⟨rfl, hb4⟩; dsimp only
        have e24 := (hb4.cell (World.block_lt_of_cell? _ _ d24)).trans d24
        have e2 := (hb4.cell (World.block_lt_of_cell? _ _ d2)).trans d2
        have HB4 := Lib.hid (HB3.out.trans (hb4.mono HB3.out.size))
        clear d24 d2 hb4
        go_wp2_with fail
        go_ret
        exact ⟨rfl, HB4.out⟩
      · have z1 : (cx == 0) = false := by simpa using z0
        clear z0
        rw [show goesOf 77 cx _ = false from by simp [goesOf, z1]] at d24; rw [show leftOf 77 cx = cx from by simp [leftOf]] at d2
        go_wp2_with fail
        refine (awake_any _).mono ?_
        rintro e w4 ⟨rfl, hb4⟩; dsimp only
        have e24 := (hb4.cell (World.block_lt_of_cell? _ _ d24)).trans d24
        have e2 := (hb4.cell (World.block_lt_of_cell? _ _ d2)).trans d2
        have HB4 := Lib.hid (HB3.out.trans (hb4.mono HB3.out.size))
        clear d24 d2 hb4
        go_wp2_with fail
        go_ret
        exact ⟨rfl, HB4.out⟩
end Go.Proofs.YtcglkefaopgjeaaDoor
