/- core.End; flow.call. -/
import Derived.Test.YtcglkefaopgjeaaGreatDoorE8
namespace Go.Proofs.YtcglkefaopgjeaaGreatDoor
set_option linter.unusedSimpArgs false
set_option linter.unusedVariables false
open Go.RowKit

theorem wp_own (C : Phys) (lv : Value) : ∀ k, (C.wp lv).own k → C.own lv k := by
  rintro k (e | e)
  · exact Or.inr (Or.inr (Or.inr (Or.inl e)))
  · exact Or.inr (Or.inr (Or.inr (Or.inr e)))
/-- The world has gone on. -/
theorem Own.world {w w' : World} {C : Phys} {lv : Value} {m : Mach} {n : Nat} {l : List Ev} (h : Own w C lv m) (hp : WPost (C.wp lv) w m.rs n l w') : After C lv w { m with at_ := n, ev := l } w' := by
  obtain ⟨lv', hw, hf, hk⟩ := hp
  have l1 := h.l1
  have l2 := h.l2
  have l3 := h.l3
  have l4 := h.l4
  have no : ∀ k, k < C.base → k ≠ C.wb → ¬ (C.wp lv).own k := by
    rintro k hk1 hk2 (e | e)
    · exact hk2 e
    · have := (h.lvlt e).1; omega
  refine ⟨lv', ⟨hf.row h.row (no _ l1 h.n4), ⟨hf.row h.mem.r (no _ l2 h.n5), hf.row h.mem.b (no _ l3 h.n6), hf.row h.mem.t (no _ l4 h.n7), h.mem.ne1, h.mem.ne2, h.mem.ne3, h.mem.wf⟩, hw, ⟨h.wf.r, h.wf.base, h.wf.size⟩, h.n1, h.n2, h.n3, h.n4, h.n5, h.n6, h.n7, h.l1, h.l2, h.l3, h.l4, h.ra⟩, hf.mono (wp_own C lv), hk⟩

def Mach.end (m : Mach) (kind : Int) : Mach :=
  if m.state ≠ 0 then m else if 0 < kind then { m with state := 1, ev := noteL m.ev ⟨kind, 0, 0, 0, 0, 0, 0⟩ } else { m with state := 1 }

set_option maxRecDepth 100000 in
set_option maxHeartbeats 800000 in
theorem end_any (w : World) (C : Phys) (lv : Value) (m : Mach) (h : Own w C lv m) (kind : Int) :
    Calls Tryz.prog 60 #[.pointer (some ⟨C.b, 0, none⟩), .int .i64 kind] w fun e w' => e = .returned (.tuple #[]) ∧ After C lv w (m.end kind) w' := by
  have HO0 := Lib.hid h; have HA0 := Lib.hid (Acc.refl C lv w); have sc := HO0.out.sees.c; have sf := HO0.out.sees.f; have sr := HO0.out.sees.r; have ss := HO0.out.sees.s; have sl := HO0.out.sees.l; clear h
  by_cases h0 : m.state = 0
  · have hb : (m.state != 0) = false := by simp [h0]
    have H0 := Lib.hid h0
    clear h0
    by_cases hk : 0 < kind
    · have hk' : decide (0 < kind) = true := decide_eq_true hk
      have HK := Lib.hid hk
      clear hk
      go_enter Tryz.func60, Tryz.ntmps60
      go_wp2_with fail
      have HO1 := Lib.hid (HO0.out.setState 1)
      have HA1 := Lib.hid (HA0.out.setB 30 (.int .i64 1))
      refine (stop_any _ (C.wp lv) m.rs m.at_ m.ev HO1.out.wor kind).mono ?_
      rintro e w1 ⟨rfl, hp⟩; dsimp only
      obtain ⟨lv1, h1, f1, k1⟩ := Own.world (m := { m with state := 1 }) HO1.out hp
      have HO2 := Lib.hid h1
      have HA2 := Lib.hid (HA1.out.trans ⟨f1, k1⟩)
      clear h1 f1 k1 hp
      go_wp2_with fail
      go_end0
      rw [Mach.end, if_neg (by rw [H0.out]; decide), if_pos HK.out]
      exact ⟨rfl, After.mk HO2.out HA2.out⟩
    · have hk' : decide (0 < kind) = false := decide_eq_false hk
      have HK := Lib.hid hk
      clear hk
      go_enter Tryz.func60, Tryz.ntmps60
      go_wp2_with fail
      go_end0
      rw [Mach.end, if_neg (by rw [H0.out]; decide), if_neg (by have := HK.out; omega)]
      exact ⟨rfl, After.mk (HO0.out.setState 1) (HA0.out.setB 30 (.int .i64 1))⟩
  · have hb : (m.state != 0) = true := by simp [h0]
    have H0 := Lib.hid h0
    clear h0
    go_enter Tryz.func60, Tryz.ntmps60
    go_wp2_with fail
    ((try simp only [Exit.inBlock, Exit.then]); refine bodyPost_ret (results_none rfl _ _ _) rfl ?_)
    rw [Mach.end, if_pos H0.out]
    exact ⟨rfl, After.mk HO0.out HA0.out⟩

/-- The four registers are asked, one behind the other. -/
def Mach.plains (m : Mach) : Nat → Mach
  | 0 => m
  | 1 => m.plain m.r.g0
  | 2 => (m.plain m.r.g0).plain m.r.g3
  | 3 => ((m.plain m.r.g0).plain m.r.g3).plain m.r.g1
  | _ => (((m.plain m.r.g0).plain m.r.g3).plain m.r.g1).plain m.r.g2
theorem plains_r (m : Mach) (k : Nat) : (m.plains k).r = m.r := by
  unfold Mach.plains
  split <;> simp only [plain_r]
theorem stuck_rs (m : Mach) : m.stuck.rs = m.rs := by unfold Mach.stuck; split <;> rfl
theorem plain_rs (m : Mach) (x : V) : (m.plain x).rs = m.rs := by unfold Mach.plain; split; exact stuck_rs m; rfl
theorem plains_rs (m : Mach) (k : Nat) : (m.plains k).rs = m.rs := by
  unfold Mach.plains
  split <;> simp only [plain_rs]
def four (r : Regs) (k : Nat) : Array Value :=
  #[.int .u16 (if 0 < k then r.g0.v else 0), .int .u16 (if 1 < k then r.g3.v else 0), .int .u16 (if 2 < k then r.g1.v else 0), .int .u16 (if 3 < k then r.g2.v else 0)]

def Mach.call (m : Mach) (n : Int) : Mach :=
  if (m.plains 4).state ≠ 0 then m.plains 4 else
  let m5 := { m.plains 4 with at_ := intI (m.plains 4).rs (m.plains 4).at_ n m.r.g0.v, ev := intL (m.plains 4).rs (m.plains 4).at_ (m.plains 4).ev n m.r.g0.v m.r.g3.v m.r.g1.v m.r.g2.v }
  let m6 := m5.setR (m.r.put 0 ⟨intV (m.plains 4).rs (m.plains 4).at_ n m.r.g0.v, false⟩)
  if endsInt n m.r.g0.v then m6.end 0 else m6

def CallIn (C : Phys) (lv : Value) (w : World) (m : Mach) (k : Nat) (wr : World) : Prop := ∃ lv', Own wr C lv' (m.plains k) ∧ Acc C lv w lv' wr ∧ Box C lv' wr w.heap.size (four m.r k) 225

set_option maxRecDepth 100000 in
set_option maxHeartbeats 3200000 in
theorem call_any (w : World) (C : Phys) (lv : Value) (m : Mach) (h : Own w C lv m) (n : Int) (hn0 : 0 ≤ n) (hn1 : n ≤ 255) (hrs : ∀ j, 0 ≤ nextV m.rs j ∧ nextV m.rs j ≤ 65535) :
    Calls Tryz.prog 177 #[.pointer (some ⟨C.b, 0, none⟩), .int .u8 n] w fun e w' => e = .returned (.tuple #[]) ∧ After C lv w (m.call n) w' := by
  have HX0 := Lib.hid (Box.new h (four m.r 0) 225)
  have HWF := Lib.hid h.wf.r
  have HRS := Lib.hid hrs
  clear hrs
  have HO0 := Lib.hid h; have HA0 := Lib.hid (Acc.refl C lv w); have sc := HO0.out.sees.c; have sf := HO0.out.sees.f; have sr := HO0.out.sees.r; have ss := HO0.out.sees.s; have sl := HO0.out.sees.l; clear h
  go_enter Tryz.func177, Tryz.ntmps177
  go_wp2_with fail
  have i0 : ∀ w, (Instr.index 226 (.agg #[.int .i64 0, .int .i64 3, .int .i64 1, .int .i64 2]) (.int .i64 0)).run Tryz.prog w = .ok (.int .i64 0) w := fun _ => by kernel_rfl
  have i1 : ∀ w, (Instr.index 226 (.agg #[.int .i64 0, .int .i64 3, .int .i64 1, .int .i64 2]) (.int .i64 1)).run Tryz.prog w = .ok (.int .i64 3) w := fun _ => by kernel_rfl
  have i2 : ∀ w, (Instr.index 226 (.agg #[.int .i64 0, .int .i64 3, .int .i64 1, .int .i64 2]) (.int .i64 2)).run Tryz.prog w = .ok (.int .i64 1) w := fun _ => by kernel_rfl
  have i3 : ∀ w, (Instr.index 226 (.agg #[.int .i64 0, .int .i64 3, .int .i64 1, .int .i64 2]) (.int .i64 3)).run Tryz.prog w = .ok (.int .i64 2) w := fun _ => by kernel_rfl
  clear sc sf sr ss sl
  go_loopw [10] (fun i wr => ∃ k : Nat, k ≤ 4 ∧ i = .int .i64 k ∧ CallIn C lv w m k wr) (fun i _ => 4 - (intOf i).toNat)
  case atStart => exact ⟨0, by omega, rfl, lv, HO0.out.alloc _, HA0.out.alloc _, HX0.out⟩
  case round =>
    obtain ⟨k, hk, rfl, lv1, h1, a1, b1⟩ := hrel
    have hr := plains_r m k
    have HO1 := Lib.hid h1
    have HA1 := Lib.hid a1
    have HX1 := Lib.hid b1
    have HR := Lib.hid hr
    have sc := HO1.out.sees.c; have sf := HO1.out.sees.f; have sr := HO1.out.sees.r; have ss := HO1.out.sees.s; have sl := HO1.out.sees.l
    clear h1 a1 b1 hr
    have hcases : k = 0 ∨ k = 1 ∨ k = 2 ∨ k = 3 ∨ k = 4 := by omega
    rcases hcases with rfl | rfl | rfl | rfl | rfl
    · go_wp2_with fail
      refine (get_any _ _ _).mono ?_
      rw [HR.out, show m.r.get 0 = m.r.g0 from rfl]
      rintro e wa ⟨rfl, hb⟩; dsimp only
      have HO2 := Lib.hid (HO1.out.below hb)
      have HA2 := Lib.hid (HA1.out.below hb)
      have HX2 := Lib.hid (HX1.out.below hb)
      clear sc sf sr ss sl hb
      go_wp2_with fail
      refine (plain_any _ _ _ _ HO2.out m.r.g0).mono ?_
      rintro e wb ⟨rfl, lvb, h2, f2, k2⟩; dsimp only
      have HO3 := Lib.hid h2
      have HA3 := Lib.hid (HA2.out.trans ⟨f2, k2⟩)
      have HX3 := Lib.hid (HX2.out.step f2 k2)
      clear h2 f2 k2
      have xk : wb.cell? ⟨w.heap.size, 0, none⟩ = some (.int .u16 0) := HX3.out.row.cell 0
      have xF := HX3.out.row.frozen
      have xl := HX3.out.row.lt
      go_wp2_with fail
      have ap := HO0.out.apart (Nat.le_refl _)
      exact ⟨⟨1, by omega, by rfl, lvb, HO3.out.setBox (p := ⟨w.heap.size, 0, none⟩) HX3.out.no ap _, HA3.out.setNew (p := ⟨w.heap.size, 0, none⟩) (Nat.le_refl _) _, ⟨HX3.out.row.setCell 0 _, HX3.out.no⟩⟩, by simp [intOf]⟩
    · go_wp2_with fail
      refine (get_any _ _ _).mono ?_
      rw [HR.out, show m.r.get 3 = m.r.g3 from rfl]
      rintro e wa ⟨rfl, hb⟩; dsimp only
      have HO2 := Lib.hid (HO1.out.below hb)
      have HA2 := Lib.hid (HA1.out.below hb)
      have HX2 := Lib.hid (HX1.out.below hb)
      clear sc sf sr ss sl hb
      go_wp2_with fail
      refine (plain_any _ _ _ _ HO2.out m.r.g3).mono ?_
      rintro e wb ⟨rfl, lvb, h2, f2, k2⟩; dsimp only
      have HO3 := Lib.hid h2
      have HA3 := Lib.hid (HA2.out.trans ⟨f2, k2⟩)
      have HX3 := Lib.hid (HX2.out.step f2 k2)
      clear h2 f2 k2
      have xk : wb.cell? ⟨w.heap.size, 1, none⟩ = some (.int .u16 0) := HX3.out.row.cell 1
      have xF := HX3.out.row.frozen
      have xl := HX3.out.row.lt
      go_wp2_with fail
      have ap := HO0.out.apart (Nat.le_refl _)
      exact ⟨⟨2, by omega, by rfl, lvb, HO3.out.setBox (p := ⟨w.heap.size, 1, none⟩) HX3.out.no ap _, HA3.out.setNew (p := ⟨w.heap.size, 1, none⟩) (Nat.le_refl _) _, ⟨HX3.out.row.setCell 1 _, HX3.out.no⟩⟩, by simp [intOf]⟩
    · go_wp2_with fail
      refine (get_any _ _ _).mono ?_
      rw [HR.out, show m.r.get 1 = m.r.g1 from rfl]
      rintro e wa ⟨rfl, hb⟩; dsimp only
      have HO2 := Lib.hid (HO1.out.below hb)
      have HA2 := Lib.hid (HA1.out.below hb)
      have HX2 := Lib.hid (HX1.out.below hb)
      clear sc sf sr ss sl hb
      go_wp2_with fail
      refine (plain_any _ _ _ _ HO2.out m.r.g1).mono ?_
      rintro e wb ⟨rfl, lvb, h2, f2, k2⟩; dsimp only
      have HO3 := Lib.hid h2
      have HA3 := Lib.hid (HA2.out.trans ⟨f2, k2⟩)
      have HX3 := Lib.hid (HX2.out.step f2 k2)
      clear h2 f2 k2
      have xk : wb.cell? ⟨w.heap.size, 2, none⟩ = some (.int .u16 0) := HX3.out.row.cell 2
      have xF := HX3.out.row.frozen
      have xl := HX3.out.row.lt
      go_wp2_with fail
      have ap := HO0.out.apart (Nat.le_refl _)
      exact ⟨⟨3, by omega, by rfl, lvb, HO3.out.setBox (p := ⟨w.heap.size, 2, none⟩) HX3.out.no ap _, HA3.out.setNew (p := ⟨w.heap.size, 2, none⟩) (Nat.le_refl _) _, ⟨HX3.out.row.setCell 2 _, HX3.out.no⟩⟩, by simp [intOf]⟩
    · go_wp2_with fail
      refine (get_any _ _ _).mono ?_
      rw [HR.out, show m.r.get 2 = m.r.g2 from rfl]
      rintro e wa ⟨rfl, hb⟩; dsimp only
      have HO2 := Lib.hid (HO1.out.below hb)
      have HA2 := Lib.hid (HA1.out.below hb)
      have HX2 := Lib.hid (HX1.out.below hb)
      clear sc sf sr ss sl hb
      go_wp2_with fail
      refine (plain_any _ _ _ _ HO2.out m.r.g2).mono ?_
      rintro e wb ⟨rfl, lvb, h2, f2, k2⟩; dsimp only
      have HO3 := Lib.hid h2
      have HA3 := Lib.hid (HA2.out.trans ⟨f2, k2⟩)
      have HX3 := Lib.hid (HX2.out.step f2 k2)
      clear h2 f2 k2
      have xk : wb.cell? ⟨w.heap.size, 3, none⟩ = some (.int .u16 0) := HX3.out.row.cell 3
      have xF := HX3.out.row.frozen
      have xl := HX3.out.row.lt
      go_wp2_with fail
      have ap := HO0.out.apart (Nat.le_refl _)
      exact ⟨⟨4, by omega, by rfl, lvb, HO3.out.setBox (p := ⟨w.heap.size, 3, none⟩) HX3.out.no ap _, HA3.out.setNew (p := ⟨w.heap.size, 3, none⟩) (Nat.le_refl _) _, ⟨HX3.out.row.setCell 3 _, HX3.out.no⟩⟩, by simp [intOf]⟩
    · by_cases h0 : (m.plains 4).state = 0
      · have t0 : ((m.plains 4).state != 0) = false := by simp [h0]
        have H0 := Lib.hid h0
        clear h0
        go_wp2_with fail
        refine (state_any _ _ _ _ HO1.out).mono ?_
        rintro e w' ⟨rfl, rfl⟩; dsimp only
        go_wp2_with fail
        have hrs := plains_rs m 4
        have HS := Lib.hid (show m.call n = if (m.plains 4).state ≠ 0 then m.plains 4 else if endsInt n m.r.g0.v then (({ m.plains 4 with at_ := intI (m.plains 4).rs (m.plains 4).at_ n m.r.g0.v, ev := intL (m.plains 4).rs (m.plains 4).at_ (m.plains 4).ev n m.r.g0.v m.r.g3.v m.r.g1.v m.r.g2.v } : Mach).setR (m.r.put 0 ⟨intV (m.plains 4).rs (m.plains 4).at_ n m.r.g0.v, false⟩)).end 0 else (({ m.plains 4 with at_ := intI (m.plains 4).rs (m.plains 4).at_ n m.r.g0.v, ev := intL (m.plains 4).rs (m.plains 4).at_ (m.plains 4).ev n m.r.g0.v m.r.g3.v m.r.g1.v m.r.g2.v } : Mach).setR (m.r.put 0 ⟨intV (m.plains 4).rs (m.plains 4).at_ n m.r.g0.v, false⟩)) from rfl)
        have HRS4 := Lib.hid hrs
        clear sc sf sr ss sl; clear t0 hrs i0 i1 i2 i3
        generalize m.plains 4 = m4 at HO1 HR H0 HS HRS4
        have HS := Lib.hid (HS.out.trans (if_neg (by rw [H0.out]; decide)))
        have hva := HWF.out.g0
        have HV := Lib.hid (show 0 ≤ intV m4.rs m4.at_ n m.r.g0.v ∧ intV m4.rs m4.at_ n m.r.g0.v ≤ 65535 from by
          unfold intV
          split
          · exact hva
          · rw [HRS4.out]; exact HRS.out _)
        have c27 : wr.cell? ⟨C.b, 27, none⟩ = some (.pointer (some ⟨C.wb, 0, none⟩)) := (HO1.out.row.cell 27).trans (mcell27 C m4)
        have x0 : wr.cell? ⟨w.heap.size, 0, none⟩ = some (.int .u16 m.r.g0.v) := HX1.out.row.cell 0
        have x1 : wr.cell? ⟨w.heap.size, 1, none⟩ = some (.int .u16 m.r.g3.v) := HX1.out.row.cell 1
        have x2 : wr.cell? ⟨w.heap.size, 2, none⟩ = some (.int .u16 m.r.g1.v) := HX1.out.row.cell 2
        have x3 : wr.cell? ⟨w.heap.size, 3, none⟩ = some (.int .u16 m.r.g2.v) := HX1.out.row.cell 3
        go_region_held3 (fun w' => w'.cell? ⟨C.b, 27, none⟩ = some (.pointer (some ⟨C.wb, 0, none⟩)) ∧ w'.cell? ⟨w.heap.size, 0, none⟩ = some (.int .u16 m.r.g0.v) ∧ w'.cell? ⟨w.heap.size, 1, none⟩ = some (.int .u16 m.r.g3.v) ∧ w'.cell? ⟨w.heap.size, 2, none⟩ = some (.int .u16 m.r.g1.v) ∧ w'.cell? ⟨w.heap.size, 3, none⟩ = some (.int .u16 m.r.g2.v)) (go_keep) ((go_at_call 201; refine (int_any _ (C.wp lv1) m4.rs m4.at_ m4.ev HO1.out.drew.wor n m.r.g0.v m.r.g3.v m.r.g1.v m.r.g2.v hn0 hn1 hva.1 hva.2).mono ?_; rintro e w2 ⟨rfl, hp⟩; obtain ⟨lv2, h2, f2, k2⟩ := Own.world HO1.out.drew hp; have y27 : w2.cell? ⟨C.b, 27, none⟩ = some (.pointer (some ⟨C.wb, 0, none⟩)) := (h2.row.cell 27).trans (mcell27 C _); have z := (HX1.out.drew.step f2 k2).row.cell; have z0 : w2.cell? ⟨w.heap.size, 0, none⟩ = some (.int .u16 m.r.g0.v) := z 0; have z1 : w2.cell? ⟨w.heap.size, 1, none⟩ = some (.int .u16 m.r.g3.v) := z 1; have z2 : w2.cell? ⟨w.heap.size, 2, none⟩ = some (.int .u16 m.r.g1.v) := z 2; have z3 : w2.cell? ⟨w.heap.size, 3, none⟩ = some (.int .u16 m.r.g2.v) := z 3; have HO2 := Lib.hid h2; have HA2 := Lib.hid (HA1.out.drew.trans ⟨f2, k2⟩); clear hp h2 f2 k2 z))
        all_goals
          have HR5 := Lib.hid (show ({ m4 with at_ := intI m4.rs m4.at_ n m.r.g0.v, ev := intL m4.rs m4.at_ m4.ev n m.r.g0.v m.r.g3.v m.r.g1.v m.r.g2.v } : Mach).r = m.r from HR.out)
          generalize ({ m4 with at_ := intI m4.rs m4.at_ n m.r.g0.v, ev := intL m4.rs m4.at_ m4.ev n m.r.g0.v m.r.g3.v m.r.g1.v m.r.g2.v } : Mach) = m5 at HO2 HS HR5
          generalize intV m4.rs m4.at_ n m.r.g0.v = av at HS HV ⊢
          generalize endsInt n m.r.g0.v = ed at HS ⊢
          have HWP := Lib.hid (Regs.put0_wf HWF.out (x := ⟨av, false⟩) HV.out)
          clear y27 z0 z1 z2 z3 c27 x0 x1 x2 x3
          have sc := HO2.out.sees.c; have sf := HO2.out.sees.f; have sr := HO2.out.sees.r; have ss := HO2.out.sees.s; have sl := HO2.out.sees.l
          rw [HR5.out] at sr
          go_wp2_with fail
          refine (put_any _ _ ⟨av, false⟩ _).mono ?_
          rintro e w3 ⟨rfl, hb⟩; have HO3 := Lib.hid (HO2.out.below hb); have HA3 := Lib.hid (HA2.out.below hb); clear sc sf sr ss sl; clear hb; have sc := HO3.out.sees.c; have sf := HO3.out.sees.f; have sr := HO3.out.sees.r; have ss := HO3.out.sees.s; have sl := HO3.out.sees.l
          dsimp only
          cases ed with
          | false =>
            go_wp2_with fail
            go_end0
            rw [HS.out, if_neg (by decide)]
            exact ⟨rfl, After.mk (HO3.out.putR _ HWP.out) (HA3.out.putR _)⟩
          | true =>
            go_wp2_with fail
            refine (end_any _ _ _ _ (HO3.out.putR _ HWP.out) 0).mono ?_
            rintro e w4 ⟨rfl, lv4, h4, f4, k4⟩; dsimp only
            have HO4 := Lib.hid h4
            have HA4 := Lib.hid ((HA3.out.putR (m.r.put 0 ⟨av, false⟩)).trans ⟨f4, k4⟩)
            clear h4 f4 k4
            clear sc sf sr ss sl
            go_wp2_with fail
            go_end0
            rw [HS.out, if_pos trivial]
            exact ⟨rfl, After.mk HO4.out HA4.out⟩
      · have t0 : ((m.plains 4).state != 0) = true := by simp [h0]
        have H0 := Lib.hid h0
        clear h0
        go_wp2_with fail
        refine (state_any _ _ _ _ HO1.out).mono ?_
        rintro e w' ⟨rfl, rfl⟩; dsimp only
        go_wp2_with fail
        ((try simp only [Exit.inBlock, Exit.then]); refine bodyPost_ret (results_none rfl _ _ _) rfl ?_)
        rw [Mach.call, if_pos H0.out]
        exact ⟨rfl, After.mk HO1.out HA1.out⟩
end Go.Proofs.YtcglkefaopgjeaaGreatDoor
