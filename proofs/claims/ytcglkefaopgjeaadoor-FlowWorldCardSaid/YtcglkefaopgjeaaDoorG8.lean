/- The law FlowWorld. -/
import Derived.Test.YtcglkefaopgjeaaDoorG7
import Derived.Test.YtcglkefaopgjeaaDoorG6
import Derived.Deep.DeepCutAuto
import Derived.Deep.CutBlock
namespace Go.Proofs.YtcglkefaopgjeaaDoor
set_option linter.unusedSimpArgs false
set_option linter.unusedVariables false
open Go.RowKit

@[go_sem] theorem Regs.set1_g3t (r : Regs) (b : Bool) : r.cells.setIfInBounds 7 (.bool b) = ({ r with g3 := ⟨r.g3.v, b⟩ } : Regs).cells := rfl
theorem eq_E (k n v a b c d : Int) (w : World) : (Op.equalIn 10000 53 (.agg #[.int .i64 k, .int .u16 n, .int .u16 v, .int .u16 a, .int .u16 b, .int .u16 c, .int .u16 d]) (.agg #[.int .i64 k, .int .u16 n, .int .u16 v, .int .u16 a, .int .u16 b, .int .u16 c, .int .u16 d])).run Tryd.prog w = .ok true w := by
  have hS : Tryd.prog.underlying 53 = some (.struct (Tryd.prog.fieldsOf 53)) := by kernel_rfl
  rw [show (10000 : Nat) = 9999 + 1 from rfl, run_equalIn_agg w 9999 53 _ _ hS (by kernel_rfl)]
  simp only [Program.fieldsOf, Tryd.underlying53]
  go_simp

/-- How the law asks: which instruction, and what is called. -/
def Ask (wk n : Int) (ob : Bool) (name a want : Int) (calls : Bool) : Prop :=
  (wk = 2 ∧ name = 60 ∧ a = 24 ∧ want = 3 ∧ calls = true) ∨ (wk = 4 ∧ name = 61 ∧ a = 0 ∧ want = 4 ∧ calls = ob) ∨ (name = 60 ∧ a = 6 ∧ want = n ∧ calls = true)
def AskIn (w3 : World) (k : Nat) (wk n : Int) (ob : Bool) (s10 : Value) (wx : World) : Prop :=
  ∃ name a want : Int, ∃ calls : Bool, Ask wk n ob name a want calls ∧ s10 = .int .u16 want ∧ Row wx k #[.int .i64 name, .int .i64 a, .int .i64 0, .bool false] 43 ∧ Below w3.heap.size w3 wx
theorem Ask.says {wk n : Int} {ob : Bool} {name a want : Int} {calls : Bool} (h : Ask wk n ob name a want calls) (r : Regs) (t : Bool) (hob : fl r.f 2048 = ob) :
    (asked r t).world name a n = if calls then (asked r t).call want else asked r t := by
  rcases h with ⟨_, rfl, rfl, rfl, rfl⟩ | ⟨_, rfl, rfl, rfl, rfl⟩ | ⟨rfl, rfl, rfl, rfl⟩
  · rfl
  · unfold Mach.world
    rw [if_neg (by decide), show (andW (asked r t).r.f 2048 != 0) = calls from hob]
  · unfold Mach.world
    rw [if_pos rfl, if_neg (by decide)]
    rfl

set_option maxRecDepth 100000 in
set_option maxHeartbeats 1600000 in
theorem flowWorld_any (r : Regs) (hr : r.wf) (n how : Int) (hn0 : 0 ≤ n) (hn1 : n ≤ 255) (w : World) (t : Bool) (ht : decide (0 < bits .and .i64 how 1) = t) (wk : Int) (hwk : bits .and .i64 how 6 = wk) :
    Calls Tryd.prog 7 #[r.val, .int .u8 n, .int .i64 how] w fun e w' => e = .returned (.bool true) ∧ Below w.heap.size w w' := by
  have hO := and_pos r.f 2048 hr.f.1 hr.f.2 (by decide) (by decide)
  obtain ⟨ob, hob⟩ : ∃ ob, fl r.f 2048 = ob := ⟨_, rfl⟩
  rw [hob] at hO
  have HOB := Lib.hid hob
  clear hob
  have hw8 : IntKind.u16.wrap n = n := by rw [IntKind.wrap_u16]; omega
  go_enter Tryd.func7, Tryd.ntmps7
  go_wp2_with fail
  refine (begin_any _ r hr).mono ?_
  rintro e w1 ⟨C, lv, rfl, ho, hb1, hn⟩; dsimp only
  have HO1 := Lib.hid ho
  have HB1 := Lib.hid (below_past hb1)
  have HN := Lib.hid (fun k (hk : k < w.heap.size) => hn k (by simp; omega))
  have hx := fresh_box hb1 hn (Row.new w r.cells 31)
  have HX1 := Lib.hid hx
  have sc := HO1.out.sees.c; have sf := HO1.out.sees.f; have sr := HO1.out.sees.r; have ss := HO1.out.sees.s; have sl := HO1.out.sees.l
  clear ho hb1 hn hx
  go_wp2_with fail
  have HO2 := Lib.hid (HO1.out.alloc (.cells (worldX r t).cells 31))
  have HX2 := Lib.hid (HX1.out.alloc (.cells (worldX r t).cells 31))
  have HY2 := Lib.hid (Box.new HO1.out (worldX r t).cells 31)
  have HB2 := Lib.hid (HB1.out.alloc HB1.out.size (.cells (worldX r t).cells 31))
  clear sc sf sr ss sl
  refine (set_any _ _ _ _ HO2.out (worldX r t) (worldX_wf hr t)).mono ?_
  rintro e w3 ⟨rfl, lv3, h3, f3, k3⟩; dsimp only
  have HO3 := Lib.hid (show Own w3 C lv3 (asked r t) from h3)
  have HX3 := Lib.hid (HX2.out.step f3 k3)
  have HY3 := Lib.hid (HY2.out.step f3 k3)
  have HB3 := Lib.hid (below_step HB2.out f3 HN.out)
  have HN3 := Lib.hid (own_lv HN.out k3 (by have := HB1.out.size; simp; omega))
  clear h3 f3 k3
  obtain ⟨xc, xf, xr, xs, xl⟩ := HX3.out.row.sees
  go_upto_block 0 with fail
  go_cut [10] (fun s10 wx => AskIn w3 w3.heap.size wk n ob s10 wx)
  case first =>
    have hcut0 : (wk = 2 ∨ wk = 4 ∨ ((wk == 2) = false ∧ (wk == 4) = false)) := by
      by_cases h2 : wk = 2
      · exact Or.inl h2
      · by_cases h4 : wk = 4
        · exact Or.inr (Or.inl h4)
        · exact Or.inr (Or.inr ⟨by simpa using h2, by simpa using h4⟩)
    rcases hcut0 with rfl | rfl | ⟨h2, h4⟩
    all_goals
      go_wp2_with fail
      go_meet
    · exact ⟨60, 24, 3, true, Or.inl ⟨rfl, rfl, rfl, rfl, rfl⟩, rfl, Row.new _ _ _, (Below.refl _ _).alloc (Nat.le_refl _) _⟩
    · exact ⟨61, 0, 4, ob, Or.inr (Or.inl ⟨rfl, rfl, rfl, rfl, rfl⟩), rfl, Row.new _ _ _, (Below.refl _ _).alloc (Nat.le_refl _) _⟩
    · exact ⟨60, 6, n, true, Or.inr (Or.inr ⟨rfl, rfl, rfl, rfl⟩), rfl, Row.new _ _ _, (Below.refl _ _).alloc (Nat.le_refl _) _⟩
  case rest =>
    obtain ⟨name, a, want, calls, hask, rfl, hrow, hb4⟩ := hcut
    have key : (name = 60 ∧ calls = true) ∨ (name = 61 ∧ ob = calls) := by rcases hask with ⟨_, rfl, _, _, rfl⟩ | ⟨_, rfl, _, _, rfl⟩ | ⟨rfl, _, _, rfl⟩ <;> simp
    rcases key with ⟨rfl, rfl⟩ | ⟨rfl, rfl⟩
    · have HT := Lib.hid (Eq.refl t)
      have HM := Lib.hid (show (asked r t).world 60 a n = (asked r t).call want from (hask.says r t HOB.out).trans rfl)
      have HO4 := Lib.hid (HO3.out.below hb4)
      have HX4 := Lib.hid (HX3.out.below hb4)
      have HB4 := Lib.hid (HB3.out.trans (hb4.mono HB3.out.size))
      have zc := hrow.cell
      clear xc xf xr xs xl hb4 hrow hask hwk
      obtain ⟨xc, xf, xr, xs, xl⟩ := HX4.out.row.sees
      go_wp2_with fail
      refine (do_int _ _ _ _ HO4.out ⟨false, 0, 0, 0, 0, 0, 0, 0, 0, 0⟩ ⟨60, a, 0, false⟩ n zV hn0 hn1 (asked_rs r t) (Or.inl rfl)).mono ?_
      dsimp only
      rw [HM.out]
      rintro e w5 ⟨rfl, lv5, h5, f5, k5⟩; dsimp only
      have HO5 := Lib.hid h5
      have HX5 := Lib.hid (HX4.out.step f5 k5)
      have HB5 := Lib.hid (below_step HB4.out f5 HN3.out)
      clear xc xf xr xs xl zc h5 f5 k5
      have c27 : w5.cell? ⟨C.b, 27, none⟩ = some (.pointer (some ⟨C.wb, 0, none⟩)) := (HO5.out.row.cell 27).trans (mcell27 C _)
      go_wp2_with fail
      cases t with
      | true =>
        have hs := asked_stuck r want
        generalize (asked r true).call want = m5 at HO5 hs
        have hw := HO5.out.wor
        rw [hs.1] at hw
        refine (events_any _ _ _ _ _ hw).mono ?_
        rintro e w6 ⟨v6, rfl, hq, hb6⟩; dsimp only
        have HO6 := Lib.hid (HO5.out.below hb6)
        have HB6 := Lib.hid (HB5.out.trans (hb6.mono HB5.out.size))
        have HST := Lib.hid hs.2
        have hv6 := own_form hq
        clear c27 hs hw hq hb6
        rcases hv6 with rfl | ⟨g6, cap6, rfl⟩
        all_goals
          go_wp2_with fail
          refine (awake_any _).mono ?_
          rintro e w7 ⟨rfl, hb7⟩; dsimp only
          have HO7 := Lib.hid (HO6.out.below hb7)
          have HB7 := Lib.hid (HB6.out.trans (hb7.mono HB6.out.size))
          clear hb7
          go_wp2_with fail
          refine (state_any _ _ _ _ HO7.out).mono ?_
          rw [HST.out]
          rintro e w' ⟨rfl, rfl⟩; dsimp only
          go_wp2_with fail
          go_ret
          exact ⟨rfl, HB7.out⟩
      | false =>
        have hs := asked_says r want
        generalize (asked r false).call want = m5 at HO5 hs
        have hw := HO5.out.wor
        rw [hs.1] at hw
        refine (events_any _ _ _ _ _ hw).mono ?_
        rintro e w6 ⟨v6, rfl, hq, hb6⟩; dsimp only
        have HO6 := Lib.hid (HO5.out.below hb6)
        have HX6 := Lib.hid (HX5.out.below hb6)
        have HB6 := Lib.hid (HB5.out.trans (hb6.mono HB5.out.size))
        have HST := Lib.hid hs.2
        have HQ := Lib.hid hq
        have hv6 : ∃ g cap, v6 = .slice (some ⟨g, 0, none⟩) 1 cap := by
          rcases hq.2 with ⟨_, h0⟩ | ⟨g, cap, _, hv, _⟩
          · cases h0
          · exact ⟨g, cap, hv⟩
        clear c27 hs hw hq hb6
        obtain ⟨g6, cap6, rfl⟩ := hv6
        obtain ⟨xc, xf, xr, xs, xl⟩ := HX6.out.row.sees
        go_upto_region 20 with fail
        have bax0 : 0 ≤ r.g0.v := hr.g0.1
        have bax1 : r.g0.v ≤ 65535 := hr.g0.2
        have hquo : IntKind.u16.wrap (r.g0.v.tdiv 256) = r.g0.v / 256 := by rw [Int.tdiv_eq_ediv_of_nonneg bax0, IntKind.wrap_u16]; omega
        go_cut [14] (fun s14 wx => s14 = .bool (endsInt want r.g0.v) ∧ wx = w6)
        case first =>
          by_cases e32 : want = 32
          · have n32 : (want == 32) = true := by simp [e32]
            have HE := Lib.hid (show endsInt want r.g0.v = true by simp [endsInt, e32])
            clear e32
            go_wp2_with fail
            go_meet
            rw [HE.out]
            exact ⟨rfl, rfl⟩
          · have n32 : (want == 32) = false := by simp [e32]
            by_cases e33 : want = 33
            · have n33 : (want == 33) = true := by simp [e33]
              by_cases e76 : r.g0.v / 256 = 76
              · have n76 : (r.g0.v / 256 == 76) = true := by simp [e76]
                have HE := Lib.hid (show endsInt want r.g0.v = true by simp [endsInt, e33, e76])
                clear e32 e33 e76
                go_wp2_with fail
                go_meet
                rw [HE.out]
                exact ⟨rfl, rfl⟩
              · have n76 : (r.g0.v / 256 == 76) = false := by simp [e76]
                have HE := Lib.hid (show endsInt want r.g0.v = false by simp [endsInt, e33, e76])
                clear e32 e33 e76
                go_wp2_with fail
                go_meet
                rw [HE.out]
                exact ⟨rfl, rfl⟩
            · have n33 : (want == 33) = false := by simp [e33]
              have HE := Lib.hid (show endsInt want r.g0.v = false by simp [endsInt, e32, e33])
              clear e32 e33
              go_wp2_with fail
              go_meet
              rw [HE.out]
              exact ⟨rfl, rfl⟩
        case rest =>
          obtain ⟨rfl, rfl⟩ := hcut
          generalize endsInt want r.g0.v = en at HST HQ ⊢
          cases en with
          | false =>
            go_wp2_with fail
            have hc := HQ.out.cells (g := g6) rfl
            have q0 : wc.cell? ⟨g6, 0, none⟩ = some (.int .i64 3) := hc 0 _ rfl
            have q1 : wc.cell? ⟨g6, 1, none⟩ = some (.int .u16 want) := hc 1 _ rfl
            have q2 : wc.cell? ⟨g6, 2, none⟩ = some (.int .u16 77) := hc 2 _ rfl
            have q3 : wc.cell? ⟨g6, 3, none⟩ = some (.int .u16 r.g0.v) := hc 3 _ rfl
            have q4 : wc.cell? ⟨g6, 4, none⟩ = some (.int .u16 r.g3.v) := hc 4 _ rfl
            have q5 : wc.cell? ⟨g6, 5, none⟩ = some (.int .u16 r.g1.v) := hc 5 _ rfl
            have q6 : wc.cell? ⟨g6, 6, none⟩ = some (.int .u16 r.g2.v) := hc 6 _ rfl
            have hbE := (Below.refl wc.heap.size wc).alloc (Nat.le_refl _) (.cells #[.int .i64 3, .int .u16 want, .int .u16 77, .int .u16 r.g0.v, .int .u16 r.g3.v, .int .u16 r.g1.v, .int .u16 r.g2.v] 53)
            have hrE := Row.new wc #[.int .i64 3, .int .u16 want, .int .u16 77, .int .u16 r.g0.v, .int .u16 r.g3.v, .int .u16 r.g1.v, .int .u16 r.g2.v] 53
            have G1 := HO6.out.below hbE
            have HB8 := Lib.hid (HB6.out.trans (hbE.mono HB6.out.size))
            have c0 : _ = some (Value.int .u16 77) := (G1.row.cell 0).trans ((mcell0 C m5).trans (by rw [HST.out.1]; rfl))
            have st := HST.out.2
            have q0 := (hbE.cell (World.block_lt_of_cell? _ _ q0)).trans q0
            have q1 := (hbE.cell (World.block_lt_of_cell? _ _ q1)).trans q1
            have q2 := (hbE.cell (World.block_lt_of_cell? _ _ q2)).trans q2
            have q3 := (hbE.cell (World.block_lt_of_cell? _ _ q3)).trans q3
            have q4 := (hbE.cell (World.block_lt_of_cell? _ _ q4)).trans q4
            have q5 := (hbE.cell (World.block_lt_of_cell? _ _ q5)).trans q5
            have q6 := (hbE.cell (World.block_lt_of_cell? _ _ q6)).trans q6
            clear xc xf xr xs xl hc hbE
            refine range_of (wc.alloc (.cells #[.int .i64 3, .int .u16 want, .int .u16 77, .int .u16 r.g0.v, .int .u16 r.g3.v, .int .u16 r.g1.v, .int .u16 r.g2.v] 53)) ?_; intro S inst ω hin hout
            have rq0 := range_cell hin q0
            have rq1 := range_cell hin q1
            have rq2 := range_cell hin q2
            have rq3 := range_cell hin q3
            have rq4 := range_cell hin q4
            have rq5 := range_cell hin q5
            have rq6 := range_cell hin q6
            have re := range_row hin hrE
            have rc := range_cell hin c0
            have k1 := range_call hin hout awake_any
            have k2 := range_calls hin hout (fun w hw => (state_any w C lv5 _ (G1.below hw)).mono (by rintro e w' ⟨rfl, rfl⟩; rw [st]; exact ⟨rfl, Below.refl _ _⟩))
            have eqe := eq_E 3 want 77 r.g0.v r.g3.v r.g1.v r.g2.v
            clear q0 q1 q2 q3 q4 q5 q6 c0 G1 hrE st
            refine wp_region_range_lit ω (by kernel_rfl) (by kernel_rfl) (hout _ (Below.refl _ _).drew) ?_
            repeat (go_big_quiet_step (first | (with_reducible exact k1 _) | (with_reducible exact k2 _)))
            refine wpQuiet_nil ?_; intro _ hw'; obtain ⟨nq, rfl⟩ := hw'
            go_wp2_with fail
            go_ret
            exact ⟨rfl, HB8.out.trans ((hin nq).mono HB8.out.size)⟩
          | true =>
            go_wp2_with fail
            have hc := HQ.out.cells (g := g6) rfl
            have q0 : wc.cell? ⟨g6, 0, none⟩ = some (.int .i64 3) := hc 0 _ rfl
            have q1 : wc.cell? ⟨g6, 1, none⟩ = some (.int .u16 want) := hc 1 _ rfl
            have q2 : wc.cell? ⟨g6, 2, none⟩ = some (.int .u16 r.g0.v) := hc 2 _ rfl
            have q3 : wc.cell? ⟨g6, 3, none⟩ = some (.int .u16 r.g0.v) := hc 3 _ rfl
            have q4 : wc.cell? ⟨g6, 4, none⟩ = some (.int .u16 r.g3.v) := hc 4 _ rfl
            have q5 : wc.cell? ⟨g6, 5, none⟩ = some (.int .u16 r.g1.v) := hc 5 _ rfl
            have q6 : wc.cell? ⟨g6, 6, none⟩ = some (.int .u16 r.g2.v) := hc 6 _ rfl
            have hbE := (Below.refl wc.heap.size wc).alloc (Nat.le_refl _) (.cells #[.int .i64 3, .int .u16 want, .int .u16 r.g0.v, .int .u16 r.g0.v, .int .u16 r.g3.v, .int .u16 r.g1.v, .int .u16 r.g2.v] 53)
            have hrE := Row.new wc #[.int .i64 3, .int .u16 want, .int .u16 r.g0.v, .int .u16 r.g0.v, .int .u16 r.g3.v, .int .u16 r.g1.v, .int .u16 r.g2.v] 53
            have G1 := HO6.out.below hbE
            have HB8 := Lib.hid (HB6.out.trans (hbE.mono HB6.out.size))
            have c0 : _ = some (Value.int .u16 r.g0.v) := (G1.row.cell 0).trans ((mcell0 C m5).trans (by rw [HST.out.1]; rfl))
            have st := HST.out.2
            have q0 := (hbE.cell (World.block_lt_of_cell? _ _ q0)).trans q0
            have q1 := (hbE.cell (World.block_lt_of_cell? _ _ q1)).trans q1
            have q2 := (hbE.cell (World.block_lt_of_cell? _ _ q2)).trans q2
            have q3 := (hbE.cell (World.block_lt_of_cell? _ _ q3)).trans q3
            have q4 := (hbE.cell (World.block_lt_of_cell? _ _ q4)).trans q4
            have q5 := (hbE.cell (World.block_lt_of_cell? _ _ q5)).trans q5
            have q6 := (hbE.cell (World.block_lt_of_cell? _ _ q6)).trans q6
            clear xc xf xr xs xl hc hbE
            refine range_of (wc.alloc (.cells #[.int .i64 3, .int .u16 want, .int .u16 r.g0.v, .int .u16 r.g0.v, .int .u16 r.g3.v, .int .u16 r.g1.v, .int .u16 r.g2.v] 53)) ?_; intro S inst ω hin hout
            have rq0 := range_cell hin q0
            have rq1 := range_cell hin q1
            have rq2 := range_cell hin q2
            have rq3 := range_cell hin q3
            have rq4 := range_cell hin q4
            have rq5 := range_cell hin q5
            have rq6 := range_cell hin q6
            have re := range_row hin hrE
            have rc := range_cell hin c0
            have k1 := range_call hin hout awake_any
            have k2 := range_calls hin hout (fun w hw => (state_any w C lv5 _ (G1.below hw)).mono (by rintro e w' ⟨rfl, rfl⟩; rw [st]; exact ⟨rfl, Below.refl _ _⟩))
            have eqe := eq_E 3 want r.g0.v r.g0.v r.g3.v r.g1.v r.g2.v
            clear q0 q1 q2 q3 q4 q5 q6 c0 G1 hrE st
            refine wp_region_range_lit ω (by kernel_rfl) (by kernel_rfl) (hout _ (Below.refl _ _).drew) ?_
            repeat (go_big_quiet_step (first | (with_reducible exact k1 _) | (with_reducible exact k2 _)))
            refine wpQuiet_nil ?_; intro _ hw'; obtain ⟨nq, rfl⟩ := hw'
            go_wp2_with fail
            go_ret
            exact ⟨rfl, HB8.out.trans ((hin nq).mono HB8.out.size)⟩
    · cases ob with
      | true =>
        have HM := Lib.hid (show (asked r t).world 61 a n = (asked r t).call want from (hask.says r t HOB.out).trans rfl)
        have HO4 := Lib.hid (HO3.out.below hb4)
        have HX4 := Lib.hid (HX3.out.below hb4)
        have HB4 := Lib.hid (HB3.out.trans (hb4.mono HB3.out.size))
        have zc := hrow.cell
        clear xc xf xr xs xl hb4 hrow hask hwk
        obtain ⟨xc, xf, xr, xs, xl⟩ := HX4.out.row.sees
        go_wp2_with fail
        refine (do_int _ _ _ _ HO4.out ⟨false, 0, 0, 0, 0, 0, 0, 0, 0, 0⟩ ⟨61, a, 0, false⟩ n zV hn0 hn1 (asked_rs r t) (Or.inr rfl)).mono ?_
        dsimp only
        rw [HM.out]
        rintro e w5 ⟨rfl, lv5, h5, f5, k5⟩; dsimp only
        have HO5 := Lib.hid h5
        have HX5 := Lib.hid (HX4.out.step f5 k5)
        have HB5 := Lib.hid (below_step HB4.out f5 HN3.out)
        clear xc xf xr xs xl zc h5 f5 k5
        have c27 : w5.cell? ⟨C.b, 27, none⟩ = some (.pointer (some ⟨C.wb, 0, none⟩)) := (HO5.out.row.cell 27).trans (mcell27 C _)
        go_wp2_with fail
        cases t with
        | true =>
          have hs := asked_stuck r want
          generalize (asked r true).call want = m5 at HO5 hs
          have hw := HO5.out.wor
          rw [hs.1] at hw
          refine (events_any _ _ _ _ _ hw).mono ?_
          rintro e w6 ⟨v6, rfl, hq, hb6⟩; dsimp only
          have HO6 := Lib.hid (HO5.out.below hb6)
          have HB6 := Lib.hid (HB5.out.trans (hb6.mono HB5.out.size))
          have HST := Lib.hid hs.2
          have hv6 := own_form hq
          clear c27 hs hw hq hb6
          rcases hv6 with rfl | ⟨g6, cap6, rfl⟩
          all_goals
            go_wp2_with fail
            refine (awake_any _).mono ?_
            rintro e w7 ⟨rfl, hb7⟩; dsimp only
            have HO7 := Lib.hid (HO6.out.below hb7)
            have HB7 := Lib.hid (HB6.out.trans (hb7.mono HB6.out.size))
            clear hb7
            go_wp2_with fail
            refine (state_any _ _ _ _ HO7.out).mono ?_
            rw [HST.out]
            rintro e w' ⟨rfl, rfl⟩; dsimp only
            go_wp2_with fail
            go_ret
            exact ⟨rfl, HB7.out⟩
        | false =>
          have hs := asked_says r want
          generalize (asked r false).call want = m5 at HO5 hs
          have hw := HO5.out.wor
          rw [hs.1] at hw
          refine (events_any _ _ _ _ _ hw).mono ?_
          rintro e w6 ⟨v6, rfl, hq, hb6⟩; dsimp only
          have HO6 := Lib.hid (HO5.out.below hb6)
          have HX6 := Lib.hid (HX5.out.below hb6)
          have HB6 := Lib.hid (HB5.out.trans (hb6.mono HB5.out.size))
          have HST := Lib.hid hs.2
          have HQ := Lib.hid hq
          have hv6 : ∃ g cap, v6 = .slice (some ⟨g, 0, none⟩) 1 cap := by
            rcases hq.2 with ⟨_, h0⟩ | ⟨g, cap, _, hv, _⟩
            · cases h0
            · exact ⟨g, cap, hv⟩
          clear c27 hs hw hq hb6
          obtain ⟨g6, cap6, rfl⟩ := hv6
          obtain ⟨xc, xf, xr, xs, xl⟩ := HX6.out.row.sees
          go_upto_region 20 with fail
          have bax0 : 0 ≤ r.g0.v := hr.g0.1
          have bax1 : r.g0.v ≤ 65535 := hr.g0.2
          have hquo : IntKind.u16.wrap (r.g0.v.tdiv 256) = r.g0.v / 256 := by rw [Int.tdiv_eq_ediv_of_nonneg bax0, IntKind.wrap_u16]; omega
          go_cut [14] (fun s14 wx => s14 = .bool (endsInt want r.g0.v) ∧ wx = w6)
          case first =>
            by_cases e32 : want = 32
            · have n32 : (want == 32) = true := by simp [e32]
              have HE := Lib.hid (show endsInt want r.g0.v = true by simp [endsInt, e32])
              clear e32
              go_wp2_with fail
              go_meet
              rw [HE.out]
              exact ⟨rfl, rfl⟩
            · have n32 : (want == 32) = false := by simp [e32]
              by_cases e33 : want = 33
              · have n33 : (want == 33) = true := by simp [e33]
                by_cases e76 : r.g0.v / 256 = 76
                · have n76 : (r.g0.v / 256 == 76) = true := by simp [e76]
                  have HE := Lib.hid (show endsInt want r.g0.v = true by simp [endsInt, e33, e76])
                  clear e32 e33 e76
                  go_wp2_with fail
                  go_meet
                  rw [HE.out]
                  exact ⟨rfl, rfl⟩
                · have n76 : (r.g0.v / 256 == 76) = false := by simp [e76]
                  have HE := Lib.hid (show endsInt want r.g0.v = false by simp [endsInt, e33, e76])
                  clear e32 e33 e76
                  go_wp2_with fail
                  go_meet
                  rw [HE.out]
                  exact ⟨rfl, rfl⟩
              · have n33 : (want == 33) = false := by simp [e33]
                have HE := Lib.hid (show endsInt want r.g0.v = false by simp [endsInt, e32, e33])
                clear e32 e33
                go_wp2_with fail
                go_meet
                rw [HE.out]
                exact ⟨rfl, rfl⟩
          case rest =>
            obtain ⟨rfl, rfl⟩ := hcut
            generalize endsInt want r.g0.v = en at HST HQ ⊢
            cases en with
            | false =>
              go_wp2_with fail
              have hc := HQ.out.cells (g := g6) rfl
              have q0 : wc.cell? ⟨g6, 0, none⟩ = some (.int .i64 3) := hc 0 _ rfl
              have q1 : wc.cell? ⟨g6, 1, none⟩ = some (.int .u16 want) := hc 1 _ rfl
              have q2 : wc.cell? ⟨g6, 2, none⟩ = some (.int .u16 77) := hc 2 _ rfl
              have q3 : wc.cell? ⟨g6, 3, none⟩ = some (.int .u16 r.g0.v) := hc 3 _ rfl
              have q4 : wc.cell? ⟨g6, 4, none⟩ = some (.int .u16 r.g3.v) := hc 4 _ rfl
              have q5 : wc.cell? ⟨g6, 5, none⟩ = some (.int .u16 r.g1.v) := hc 5 _ rfl
              have q6 : wc.cell? ⟨g6, 6, none⟩ = some (.int .u16 r.g2.v) := hc 6 _ rfl
              have hbE := (Below.refl wc.heap.size wc).alloc (Nat.le_refl _) (.cells #[.int .i64 3, .int .u16 want, .int .u16 77, .int .u16 r.g0.v, .int .u16 r.g3.v, .int .u16 r.g1.v, .int .u16 r.g2.v] 53)
              have hrE := Row.new wc #[.int .i64 3, .int .u16 want, .int .u16 77, .int .u16 r.g0.v, .int .u16 r.g3.v, .int .u16 r.g1.v, .int .u16 r.g2.v] 53
              have G1 := HO6.out.below hbE
              have HB8 := Lib.hid (HB6.out.trans (hbE.mono HB6.out.size))
              have c0 : _ = some (Value.int .u16 77) := (G1.row.cell 0).trans ((mcell0 C m5).trans (by rw [HST.out.1]; rfl))
              have st := HST.out.2
              have q0 := (hbE.cell (World.block_lt_of_cell? _ _ q0)).trans q0
              have q1 := (hbE.cell (World.block_lt_of_cell? _ _ q1)).trans q1
              have q2 := (hbE.cell (World.block_lt_of_cell? _ _ q2)).trans q2
              have q3 := (hbE.cell (World.block_lt_of_cell? _ _ q3)).trans q3
              have q4 := (hbE.cell (World.block_lt_of_cell? _ _ q4)).trans q4
              have q5 := (hbE.cell (World.block_lt_of_cell? _ _ q5)).trans q5
              have q6 := (hbE.cell (World.block_lt_of_cell? _ _ q6)).trans q6
              clear xc xf xr xs xl hc hbE
              refine range_of (wc.alloc (.cells #[.int .i64 3, .int .u16 want, .int .u16 77, .int .u16 r.g0.v, .int .u16 r.g3.v, .int .u16 r.g1.v, .int .u16 r.g2.v] 53)) ?_; intro S inst ω hin hout
              have rq0 := range_cell hin q0
              have rq1 := range_cell hin q1
              have rq2 := range_cell hin q2
              have rq3 := range_cell hin q3
              have rq4 := range_cell hin q4
              have rq5 := range_cell hin q5
              have rq6 := range_cell hin q6
              have re := range_row hin hrE
              have rc := range_cell hin c0
              have k1 := range_call hin hout awake_any
              have k2 := range_calls hin hout (fun w hw => (state_any w C lv5 _ (G1.below hw)).mono (by rintro e w' ⟨rfl, rfl⟩; rw [st]; exact ⟨rfl, Below.refl _ _⟩))
              have eqe := eq_E 3 want 77 r.g0.v r.g3.v r.g1.v r.g2.v
              clear q0 q1 q2 q3 q4 q5 q6 c0 G1 hrE st
              refine wp_region_range_lit ω (by kernel_rfl) (by kernel_rfl) (hout _ (Below.refl _ _).drew) ?_
              repeat (go_big_quiet_step (first | (with_reducible exact k1 _) | (with_reducible exact k2 _)))
              refine wpQuiet_nil ?_; intro _ hw'; obtain ⟨nq, rfl⟩ := hw'
              go_wp2_with fail
              go_ret
              exact ⟨rfl, HB8.out.trans ((hin nq).mono HB8.out.size)⟩
            | true =>
              go_wp2_with fail
              have hc := HQ.out.cells (g := g6) rfl
              have q0 : wc.cell? ⟨g6, 0, none⟩ = some (.int .i64 3) := hc 0 _ rfl
              have q1 : wc.cell? ⟨g6, 1, none⟩ = some (.int .u16 want) := hc 1 _ rfl
              have q2 : wc.cell? ⟨g6, 2, none⟩ = some (.int .u16 r.g0.v) := hc 2 _ rfl
              have q3 : wc.cell? ⟨g6, 3, none⟩ = some (.int .u16 r.g0.v) := hc 3 _ rfl
              have q4 : wc.cell? ⟨g6, 4, none⟩ = some (.int .u16 r.g3.v) := hc 4 _ rfl
              have q5 : wc.cell? ⟨g6, 5, none⟩ = some (.int .u16 r.g1.v) := hc 5 _ rfl
              have q6 : wc.cell? ⟨g6, 6, none⟩ = some (.int .u16 r.g2.v) := hc 6 _ rfl
              have hbE := (Below.refl wc.heap.size wc).alloc (Nat.le_refl _) (.cells #[.int .i64 3, .int .u16 want, .int .u16 r.g0.v, .int .u16 r.g0.v, .int .u16 r.g3.v, .int .u16 r.g1.v, .int .u16 r.g2.v] 53)
              have hrE := Row.new wc #[.int .i64 3, .int .u16 want, .int .u16 r.g0.v, .int .u16 r.g0.v, .int .u16 r.g3.v, .int .u16 r.g1.v, .int .u16 r.g2.v] 53
              have G1 := HO6.out.below hbE
              have HB8 := Lib.hid (HB6.out.trans (hbE.mono HB6.out.size))
              have c0 : _ = some (Value.int .u16 r.g0.v) := (G1.row.cell 0).trans ((mcell0 C m5).trans (by rw [HST.out.1]; rfl))
              have st := HST.out.2
              have q0 := (hbE.cell (World.block_lt_of_cell? _ _ q0)).trans q0
              have q1 := (hbE.cell (World.block_lt_of_cell? _ _ q1)).trans q1
              have q2 := (hbE.cell (World.block_lt_of_cell? _ _ q2)).trans q2
              have q3 := (hbE.cell (World.block_lt_of_cell? _ _ q3)).trans q3
              have q4 := (hbE.cell (World.block_lt_of_cell? _ _ q4)).trans q4
              have q5 := (hbE.cell (World.block_lt_of_cell? _ _ q5)).trans q5
              have q6 := (hbE.cell (World.block_lt_of_cell? _ _ q6)).trans q6
              clear xc xf xr xs xl hc hbE
              refine range_of (wc.alloc (.cells #[.int .i64 3, .int .u16 want, .int .u16 r.g0.v, .int .u16 r.g0.v, .int .u16 r.g3.v, .int .u16 r.g1.v, .int .u16 r.g2.v] 53)) ?_; intro S inst ω hin hout
              have rq0 := range_cell hin q0
              have rq1 := range_cell hin q1
              have rq2 := range_cell hin q2
              have rq3 := range_cell hin q3
              have rq4 := range_cell hin q4
              have rq5 := range_cell hin q5
              have rq6 := range_cell hin q6
              have re := range_row hin hrE
              have rc := range_cell hin c0
              have k1 := range_call hin hout awake_any
              have k2 := range_calls hin hout (fun w hw => (state_any w C lv5 _ (G1.below hw)).mono (by rintro e w' ⟨rfl, rfl⟩; rw [st]; exact ⟨rfl, Below.refl _ _⟩))
              have eqe := eq_E 3 want r.g0.v r.g0.v r.g3.v r.g1.v r.g2.v
              clear q0 q1 q2 q3 q4 q5 q6 c0 G1 hrE st
              refine wp_region_range_lit ω (by kernel_rfl) (by kernel_rfl) (hout _ (Below.refl _ _).drew) ?_
              repeat (go_big_quiet_step (first | (with_reducible exact k1 _) | (with_reducible exact k2 _)))
              refine wpQuiet_nil ?_; intro _ hw'; obtain ⟨nq, rfl⟩ := hw'
              go_wp2_with fail
              go_ret
              exact ⟨rfl, HB8.out.trans ((hin nq).mono HB8.out.size)⟩
      | false =>
        have HM := Lib.hid (show (asked r t).world 61 a n = asked r t from (hask.says r t HOB.out).trans rfl)
        have HO4 := Lib.hid (HO3.out.below hb4)
        have HX4 := Lib.hid (HX3.out.below hb4)
        have HY4 := Lib.hid (HY3.out.below hb4)
        have HB4 := Lib.hid (HB3.out.trans (hb4.mono HB3.out.size))
        have zc := hrow.cell
        clear xc xf xr xs xl hb4 hrow hask hwk
        obtain ⟨xc, xf, xr, xs, xl⟩ := HX4.out.row.sees
        go_wp2_with fail
        refine (do_int _ _ _ _ HO4.out ⟨false, 0, 0, 0, 0, 0, 0, 0, 0, 0⟩ ⟨61, a, 0, false⟩ n zV hn0 hn1 (asked_rs r t) (Or.inr rfl)).mono ?_
        dsimp only
        rw [HM.out]
        rintro e w5 ⟨rfl, lv5, h5, f5, k5⟩; dsimp only
        have HO5 := Lib.hid h5
        have HY5 := Lib.hid (HY4.out.step f5 k5)
        have HB5 := Lib.hid (below_step HB4.out f5 HN3.out)
        clear xc xf xr xs xl zc h5 f5 k5
        have c27 : w5.cell? ⟨C.b, 27, none⟩ = some (.pointer (some ⟨C.wb, 0, none⟩)) := (HO5.out.row.cell 27).trans (mcell27 C _)
        go_wp2_with fail
        refine (events_any _ _ _ _ _ (show WorldAt w5 (C.wp lv5) [77] 0 [] from HO5.out.wor)).mono ?_
        rintro e w6 ⟨v6, rfl, hq, hb6⟩; dsimp only
        have HB6 := Lib.hid (HB5.out.trans (hb6.mono HB5.out.size))
        have G1 := HO5.out.below hb6
        have g2 := G1.sees.r
        have g3 := (HY5.out.below hb6).row.sees.r
        have g2 : regsIn w6 C.b = some (worldX r t).val := g2
        have hv6 := own_form hq
        have XX := Lib.hid (Eq.refl (worldX r t))
        clear c27 hq hb6
        generalize worldX r t = X at g2 g3
        rcases hv6 with rfl | ⟨g6, cap6, rfl⟩
        all_goals
          go_wp2_with fail
          refine range_of (w6) ?_; intro S inst ω hin hout
          have r2 := range_regs hin g2
          have r3 := range_regs hin g3
          have k1 := range_call hin hout awake_any
          have eqr := eq_regs X
          clear g2 g3 G1
          refine wp_region_range_lit ω (by kernel_rfl) (by kernel_rfl) (hout _ (Below.refl _ _).drew) ?_
          repeat (go_big_quiet_step ((with_reducible exact k1 _)))
          refine wpQuiet_nil ?_; intro _ hw'; obtain ⟨nq, rfl⟩ := hw'
          go_wp2_with fail
          go_ret
          exact ⟨rfl, HB6.out.trans ((hin nq).mono HB6.out.size)⟩
end Go.Proofs.YtcglkefaopgjeaaDoor
