/- Parts of the proof, in one text: YtcglkefaopgjeaaGreatDoorD4 YtcglkefaopgjeaaGreatDoorE1. Each part's own remark says what it proves; conditions: those of each theorem. -/
import Derived.Test.YtcglkefaopgjeaaGreatDoorW1
import Derived.Test.YtcglkefaopgjeaaGreatDoorW3
import Derived.Deep.DeepCutAuto

/- Contracts of package core: words of memory. -/
namespace Go.Proofs.YtcglkefaopgjeaaGreatDoor
set_option linter.unusedSimpArgs false
set_option linter.unusedVariables false
open Go.RowKit

def Mach.wordV (m : Mach) (seg : V) (off : Int) : V := mwordV m.mem m.tag (lin seg.v off) (lin seg.v (succW off))
def Mach.wordC (m : Mach) (seg : V) (off : Int) : Bool := mwordC m.tag (lin seg.v off) (lin seg.v (succW off))
def Mach.wordOk (m : Mach) (seg : V) (off : Int) : Bool := m.wordC seg off && m.owns seg off 2
def Mach.wordS (m : Mach) (seg : V) (off : Int) : Mach := if m.wordOk seg off then m else m.stuck

set_option maxRecDepth 100000 in
set_option maxHeartbeats 400000 in
theorem word_any (w : World) (C : Phys) (lv : Value) (m : Mach) (h : Own w C lv m) (seg : V) (off : Int) (hs : seg.wf) (h0 : 0 ≤ off) (h1 : off ≤ 65535) :
    Calls Tryz.prog 110 #[.pointer (some ⟨C.b, 0, none⟩), P3 seg off] w fun e w' => e = .returned (m.wordV seg off).val ∧ After C lv w (m.wordS seg off) w' := by
  have ho := (h.alloc (.cells #[.int .u16 seg.v, .bool seg.t, .int .u16 off] 52)).alloc (.cells #[.int .u16 0, .bool false] 24)
  have hb := ((Below.refl w.heap.size w).alloc (Nat.le_refl _) (.cells #[.int .u16 seg.v, .bool seg.t, .int .u16 off] 52)).alloc (by simp) (.cells #[.int .u16 0, .bool false] 24)
  have hx := (Box.new h #[.int .u16 seg.v, .bool seg.t, .int .u16 off] 52).alloc (.cells #[.int .u16 0, .bool false] 24)
  have hy := Box.new (h.alloc (.cells #[.int .u16 seg.v, .bool seg.t, .int .u16 off] 52)) #[.int .u16 0, .bool false] 24
  rw [World.size_alloc] at hy
  have H := Lib.hid h
  have s0 := hs.1
  have s1 := hs.2
  go_enter Tryz.func110, Tryz.ntmps110
  go_wp2_with fail
  generalize (w.alloc (.cells #[.int .u16 seg.v, .bool seg.t, .int .u16 off] 52)).alloc (.cells #[.int .u16 0, .bool false] 24) = W0 at *
  have c26 : W0.cell? ⟨C.b, 26, none⟩ = some (.pointer (some ⟨C.mb, 0, none⟩)) := (ho.row.cell 26).trans (mcell26 C m)
  have x0 : W0.cell? ⟨w.heap.size, 0, none⟩ = some (.int .u16 seg.v) := hx.row.cell 0
  have x2 : W0.cell? ⟨w.heap.size, 2, none⟩ = some (.int .u16 off) := hx.row.cell 2
  have HO := Lib.hid ho
  have HB := Lib.hid hb
  have HX := Lib.hid hx
  have HY := Lib.hid hy
  have HM := Lib.hid ho.mem
  have lb := ho.row.lt
  have lx := hx.row.lt
  have ne1 : ¬ C.b = W0.heap.size := by omega
  have ne2 : ¬ W0.heap.size = C.b := by omega
  have ne3 : ¬ w.heap.size = W0.heap.size := by omega
  have ne4 : ¬ W0.heap.size = w.heap.size := by omega
  clear ho hb hx hy h
  go_cut [5, 6] (fun s5 s6 wx => ∃ k : Nat, s5 = .pointer (some ⟨k, 0, none⟩) ∧ s6 = .bool (m.wordC seg off) ∧ Below W0.heap.size W0 wx ∧ W0.heap.size ≤ k ∧ Row wx k #[.int .u16 (m.wordV seg off).v, .bool (m.wordV seg off).t] 24)
  case first =>
    go_region_held3 (fun w' => w'.cell? ⟨C.b, 26, none⟩ = some (.pointer (some ⟨C.mb, 0, none⟩)) ∧ w'.cell? ⟨w.heap.size, 0, none⟩ = some (.int .u16 seg.v) ∧ w'.cell? ⟨w.heap.size, 2, none⟩ = some (.int .u16 off)) (go_keep) ((go_at_call 63; refine (memWord_any C.mb C.bb C.tb m.mem m.tag _ (by repeat (first | exact HM.out | refine MemAt.alloc ?_ _ | refine MemAt.drew ?_ | refine MemAt.drewN ?_)) seg.v off s0 s1 h0 h1).mono ?_; rintro e w1 ⟨rfl, hb1⟩; have y0 := (hb1.cell (p := ⟨C.b, 26, none⟩) (by have := HO.out.row.lt; simp <;> omega)); have y1 := (hb1.cell (p := ⟨w.heap.size, 0, none⟩) (by have := HX.out.row.lt; simp <;> omega)); have y2 := (hb1.cell (p := ⟨w.heap.size, 2, none⟩) (by have := HX.out.row.lt; simp <;> omega)); simp [World.cell?_alloc_some, c26, x0, x2] at y0 y1 y2; have z0 : ∀ j, W0.heap.size < _ → w1.cell? ⟨W0.heap.size, j, none⟩ = _ := fun j hj => hb1.cell hj; have z1 : ∀ j, W0.heap.size < _ → w1.frozen? ⟨W0.heap.size, j, none⟩ = _ := fun j hj => hb1.frozen hj; have z2 := hb1.size; simp at z2; have HB1 := Lib.hid hb1; clear hb1))
    · go_wp2_with fail
      go_meet
      have hb2 := (Below.refl W0.heap.size W0).drew.trans HB1.out
      exact ⟨w1.heap.size, rfl, rfl, hb2.alloc hb2.size _, hb2.size, Row.new _ _ _⟩
    · go_wp2_with fail
      go_meet
      have hb2 := (((Below.refl W0.heap.size W0).alloc (Nat.le_refl _) _).drew).trans (HB1.out.mono (by simp))
      have hr2 := Below.row HB1.out (Row.new W0 #[.int .u16 0, .bool false] 24).drew (by simp)
      exact ⟨W0.heap.size, rfl, rfl, (hb2.setCell (Nat.le_refl _) _).setCell (Nat.le_refl _) _, Nat.le_refl _, (hr2.setCell 0 _).setCell 1 _⟩
  case rest =>
    obtain ⟨k, rfl, rfl, hbw, hk, hrow⟩ := hcut
    have HO1 := Lib.hid (HO.out.below hbw)
    have HK := Lib.hid (Box.mk (C := C) (lv := lv) hrow (HO.out.fresh hk))
    have HX1 := Lib.hid (HX.out.below hbw)
    have HY1 := Lib.hid (HY.out.below hbw)
    have HB2 := Lib.hid (HB.out.trans (hbw.mono HB.out.size))
    have z0 := hrow.cell
    have z1 := HX1.out.row.cell
    have z2 := HY1.out.row.cell
    have z3 := HY1.out.row.frozen
    have l0 := hrow.lt
    clear c26 x0 x2 ne1 ne2 ne3 ne4 lb lx hbw hrow HO HX HY HB HM
    cases hwc : m.wordC seg off with
    | false =>
      have hb : m.wordS seg off = m.stuck := by rw [Mach.wordS, Mach.wordOk, hwc, Bool.false_and, if_neg (by decide)]
      have HS := Lib.hid hb
      clear hb hwc
      go_wp2_with (go_at_call 38; refine (stuck_any _ _ _ _ HO1.out).mono ?_; rintro e w2 ⟨rfl, lv2, h2, f2, k2⟩; have HA := Lib.hid (show After C lv wc m.stuck w2 from ⟨lv2, h2, f2, k2⟩); have u0 := (HK.out.step f2 k2).row.cell; have u2 := (HY1.out.step f2 k2).row.cell; have u3 := (HY1.out.step f2 k2).row.frozen; have HR := Lib.hid (HY1.out.step f2 k2).row; clear z0 z1 z2 z3 h2 f2 k2)
      refine bodyPost_ret (v := (m.wordV seg off).val) (by simp [results, Tryz.results110, go_sem, *]) rfl ⟨rfl, ?_⟩
      rw [HS.out]
      exact After.box H.out HB2.out HA.out (g := w.heap.size + 1) (by omega) HY1.out.row.lt (Fr.two _ _ _ _ _ _)
    | true =>
      cases how : m.owns seg off 2 with
      | true =>
        have hb : m.wordS seg off = m := by rw [Mach.wordS, Mach.wordOk, hwc, how, if_pos (by decide)]
        have HS := Lib.hid hb
        have HW := Lib.hid how
        clear hb hwc how
        go_wp2_with (go_at_call 100; refine (Own_any _ _ _ _ HO1.out seg off hs 2 (by decide)).mono ?_; rw [HW.out]; rintro e w2 ⟨rfl, hb2⟩; have HA := Lib.hid hb2; have u0 := (HK.out.below hb2).row.cell; have u2 := (HY1.out.below hb2).row.cell; have u3 := (HY1.out.below hb2).row.frozen; clear z0 z1 z2 z3 hb2)
        refine bodyPost_ret (v := (m.wordV seg off).val) (by simp [results, Tryz.results110, go_sem, *]) rfl ⟨rfl, ?_⟩
        rw [HS.out]
        exact After.box H.out HB2.out ((After.of_own HO1.out (Fr.refl _ _)).post HA.out) (g := w.heap.size + 1) (by omega) HY1.out.row.lt (Fr.two _ _ _ _ _ _)
      | false =>
        have hb : m.wordS seg off = m.stuck := by rw [Mach.wordS, Mach.wordOk, hwc, how, if_neg (by decide)]
        have HS := Lib.hid hb
        have HW := Lib.hid how
        clear hb hwc how
        go_wp2_with (first | (go_at_call 100; refine (Own_any _ _ _ _ HO1.out seg off hs 2 (by decide)).mono ?_; rw [HW.out]; rintro e w2 ⟨rfl, hb2⟩; have HA := Lib.hid hb2; have HO2 := Lib.hid (HO1.out.below hb2); have HK2 := Lib.hid (HK.out.below hb2); have HY2 := Lib.hid (HY1.out.below hb2); clear z0 z1 z2 z3 hb2) | (go_at_call 38; refine (stuck_any _ _ _ _ HO2.out).mono ?_; rintro e w3 ⟨rfl, lv2, h2, f2, k2⟩; have HA3 := Lib.hid (show After C lv w2 m.stuck w3 from ⟨lv2, h2, f2, k2⟩); have u0 := (HK2.out.step f2 k2).row.cell; have u2 := (HY2.out.step f2 k2).row.cell; have u3 := (HY2.out.step f2 k2).row.frozen; clear h2 f2 k2))
        refine bodyPost_ret (v := (m.wordV seg off).val) (by simp [results, Tryz.results110, go_sem, *]) rfl ⟨rfl, ?_⟩
        rw [HS.out]
        exact After.box H.out HB2.out (After.pre (Fr.of_below HA.out) (fun _ hk => Or.inl hk) HA3.out) (g := w.heap.size + 1) (by omega) HY1.out.row.lt (Fr.two _ _ _ _ _ _)
end Go.Proofs.YtcglkefaopgjeaaGreatDoor

/- flow.Holds beyond its names; on; loop; near by a jump; Do of what jumps. -/
namespace Go.Proofs.YtcglkefaopgjeaaGreatDoor
set_option linter.unusedSimpArgs false
set_option linter.unusedVariables false
open Go.RowKit

set_option maxRecDepth 100000 in
set_option maxHeartbeats 1600000 in
theorem holds_out (name f : Int) (w : World) (h : name < 17 ∨ 32 < name) (hn0 : -9223372036854775808 ≤ name) (hn1 : name ≤ 9223372036854775807) : Calls Tryz.prog 125 #[.int .i64 name, .int .u16 f] w fun e w' => e = .returned (.bool false) ∧ Below w.heap.size w w' := by
  have H := Lib.hid h
  have H0 := Lib.hid hn0
  have H1 := Lib.hid hn1
  have tt : ∀ k : Int, 0 ≤ k → k ≤ 7 → (wrap64 (name - 17) / 2 == k) = false := by
    intro k hk0 hk1
    rw [beq_eq_false_iff_ne]
    unfold wrap64
    omega
  have t0 := tt 0 (by decide) (by decide)
  have t1 := tt 1 (by decide) (by decide)
  have t2 := tt 2 (by decide) (by decide)
  have t3 := tt 3 (by decide) (by decide)
  have t4 := tt 4 (by decide) (by decide)
  have t5 := tt 5 (by decide) (by decide)
  have t6 := tt 6 (by decide) (by decide)
  have t7 := tt 7 (by decide) (by decide)
  clear h hn0 hn1 tt
  go_enter Tryz.func125, Tryz.ntmps125
  go_wp2_with (go_at_call 178; refine (flagIs_any _ _ f _ (by simp [go_sem])).mono ?_; rintro e w' ⟨rfl, rfl⟩)
  go_ret
  exact ⟨rfl, by (repeat (first | exact Below.refl _ _ | assumption | refine Below.setCell ?_ (by simp) _ | refine Below.alloc ?_ (by simp <;> omega) _ | refine Below.drew ?_ | refine Below.drewN ?_ | refine Below.setRow ?_ (by simp <;> omega) _))⟩

theorem holdsB_out (name f : Int) (h : name < 17 ∨ 32 < name) : holdsB name f = false := by
  unfold holdsB
  repeat rw [if_neg (by omega)]
theorem odd_no (x : Bool) : (x != (bits .and .i64 0 1 == 1)) = x := by
  have : (bits .and .i64 0 1 == 1) = false := by decide
  rw [this]; cases x <;> rfl
theorem holds_any (name f : Int) (w : World) (hn0 : -9223372036854775808 ≤ name) (hn1 : name ≤ 9223372036854775807) : Calls Tryz.prog 125 #[.int .i64 name, .int .u16 f] w fun e w' => e = .returned (.bool (holdsB name f)) ∧ Below w.heap.size w w' := by
  by_cases h : name < 17 ∨ 32 < name
  · rw [holdsB_out name f h]
    exact holds_out name f w h hn0 hn1
  · have hc : name = 17 ∨ name = 18 ∨ name = 19 ∨ name = 20 ∨ name = 21 ∨ name = 22 ∨ name = 23 ∨ name = 24 ∨ name = 25 ∨ name = 26 ∨ name = 27 ∨ name = 28 ∨ name = 29 ∨ name = 30 ∨ name = 31 ∨ name = 32 := by omega
    clear h hn0 hn1
    have key : ∀ (k : Int) (R : Bool), (Calls Tryz.prog 125 #[.int .i64 k, .int .u16 f] w fun e w' => e = .returned (.bool R) ∧ Below w.heap.size w w') → R = holdsB k f → (Calls Tryz.prog 125 #[.int .i64 k, .int .u16 f] w fun e w' => e = .returned (.bool (holdsB k f)) ∧ Below w.heap.size w w') := fun k R h e => e ▸ h
    rcases hc with rfl | rfl | rfl | rfl | rfl | rfl | rfl | rfl | rfl | rfl | rfl | rfl | rfl | rfl | rfl | rfl
    · exact key _ _ (holds_17 17 f w (by decide) (by decide)) (by rw [show (bits .and .i64 (17 - 17) 1 == 1) = false from by decide]; simp [holdsB])
    · exact key _ _ (holds_17 18 f w (by decide) (by decide)) (by rw [show (bits .and .i64 (18 - 17) 1 == 1) = true from by decide]; simp [holdsB])
    · exact key _ _ (holds_19 19 f w (by decide) (by decide)) (by rw [show (bits .and .i64 (19 - 17) 1 == 1) = false from by decide]; simp [holdsB])
    · exact key _ _ (holds_19 20 f w (by decide) (by decide)) (by rw [show (bits .and .i64 (20 - 17) 1 == 1) = true from by decide]; simp [holdsB])
    · exact key _ _ (holds_21 21 f w (by decide) (by decide)) (by rw [show (bits .and .i64 (21 - 17) 1 == 1) = false from by decide]; simp [holdsB])
    · exact key _ _ (holds_21 22 f w (by decide) (by decide)) (by rw [show (bits .and .i64 (22 - 17) 1 == 1) = true from by decide]; simp [holdsB])
    · exact key _ _ (holds_23 23 f w (by decide) (by decide)) (by rw [show (bits .and .i64 (23 - 17) 1 == 1) = false from by decide]; simp [holdsB])
    · exact key _ _ (holds_23 24 f w (by decide) (by decide)) (by rw [show (bits .and .i64 (24 - 17) 1 == 1) = true from by decide]; simp [holdsB])
    · exact key _ _ (holds_25 25 f w (by decide) (by decide)) (by rw [show (bits .and .i64 (25 - 17) 1 == 1) = false from by decide]; simp [holdsB])
    · exact key _ _ (holds_25 26 f w (by decide) (by decide)) (by rw [show (bits .and .i64 (26 - 17) 1 == 1) = true from by decide]; simp [holdsB])
    · exact key _ _ (holds_27 27 f w (by decide) (by decide)) (by rw [show (bits .and .i64 (27 - 17) 1 == 1) = false from by decide]; simp [holdsB])
    · exact key _ _ (holds_27 28 f w (by decide) (by decide)) (by rw [show (bits .and .i64 (28 - 17) 1 == 1) = true from by decide]; simp [holdsB])
    · exact key _ _ (holds_29 29 f w (by decide) (by decide)) (by rw [show (bits .and .i64 (29 - 17) 1 == 1) = false from by decide]; simp [holdsB])
    · exact key _ _ (holds_29 30 f w (by decide) (by decide)) (by rw [show (bits .and .i64 (30 - 17) 1 == 1) = true from by decide]; simp [holdsB])
    · exact key _ _ (holds_31 31 f w (by decide) (by decide)) (by rw [show (bits .and .i64 (31 - 17) 1 == 1) = false from by decide]; simp [holdsB])
    · exact key _ _ (holds_31 32 f w (by decide) (by decide)) (by rw [show (bits .and .i64 (32 - 17) 1 == 1) = true from by decide]; simp [holdsB])

set_option maxHeartbeats 400000 in
theorem is_jg (w : World) : Calls Tryz.prog 73 #[.int .i64 32] w fun e w' => e = .returned (.bool true) ∧ w = w' := by
  go_enter Tryz.func73, Tryz.ntmps73
  go_wp2_with fail
  go_ret
  exact ⟨rfl, rfl⟩
set_option maxHeartbeats 400000 in
theorem is_mov (w : World) : Calls Tryz.prog 73 #[.int .i64 35] w fun e w' => e = .returned (.bool false) ∧ w = w' := by
  go_enter Tryz.func73, Tryz.ntmps73
  go_wp2_with fail
  go_ret
  exact ⟨rfl, rfl⟩

/-- From one state of a machine's memory to another. -/
structure Acc (C : Phys) (lv : Value) (w : World) (lv1 : Value) (w1 : World) : Prop where
  f : Fr (C.own lv) w w1
  k : ∀ k, lv1.ownBlock = some k → lv.ownBlock = some k ∨ w.heap.size ≤ k
theorem Acc.refl (C : Phys) (lv : Value) (w : World) : Acc C lv w lv w := ⟨Fr.refl _ _, fun _ h => Or.inl h⟩
theorem Acc.below {C : Phys} {lv lv1 : Value} {w w1 w2 : World} (h : Acc C lv w lv1 w1) (hb : Below w1.heap.size w1 w2) : Acc C lv w lv1 w2 := ⟨h.f.trans (Fr.of_below hb), h.k⟩
theorem Acc.alloc {C : Phys} {lv lv1 : Value} {w w1 : World} (h : Acc C lv w lv1 w1) (o : Obj) : Acc C lv w lv1 (w1.alloc o) := ⟨h.f.alloc o, h.k⟩
theorem Acc.drew {C : Phys} {lv lv1 : Value} {w w1 : World} (h : Acc C lv w lv1 w1) : Acc C lv w lv1 w1.drew := ⟨h.f.drew, h.k⟩
theorem Acc.drewN {C : Phys} {lv lv1 : Value} {w w1 : World} {n : Nat} (h : Acc C lv w lv1 w1) : Acc C lv w lv1 (w1.drewN n) := ⟨h.f.drewN, h.k⟩
theorem Acc.setB {C : Phys} {lv lv1 : Value} {w w1 : World} (h : Acc C lv w lv1 w1) (j : Nat) (v : Value) : Acc C lv w lv1 (w1.setCell ⟨C.b, j, none⟩ v) := ⟨h.f.setCell (Or.inl rfl) v, h.k⟩
theorem Acc.putR {C : Phys} {lv lv1 : Value} {w w1 : World} (h : Acc C lv w lv1 w1) (r : Regs) : Acc C lv w lv1 (Go.Proofs.YtcglkefaopgjeaaGreatDoor.putR w1 C.b r) := ⟨Fr.putR h.f (Or.inl rfl) r, h.k⟩
theorem Acc.trans {C : Phys} {lv lv1 lv2 : Value} {w w1 w2 : World} (h : Acc C lv w lv1 w1) (g : Acc C lv1 w1 lv2 w2) : Acc C lv w lv2 w2 := by
  refine ⟨⟨g.f.os.trans h.f.os, g.f.tape.trans h.f.tape, g.f.output.trans h.f.output, Nat.le_trans h.f.size g.f.size, ?_⟩, ?_⟩
  · intro k hk1 ho
    refine (g.f.block k (Nat.lt_of_lt_of_le hk1 h.f.size) ?_).trans (h.f.block k hk1 ho)
    rintro (e | e | e | e | e)
    · exact ho (Or.inl e)
    · exact ho (Or.inr (Or.inl e))
    · exact ho (Or.inr (Or.inr (Or.inl e)))
    · exact ho (Or.inr (Or.inr (Or.inr (Or.inl e))))
    · rcases h.k k e with e | e
      · exact ho (Or.inr (Or.inr (Or.inr (Or.inr e))))
      · omega
  · intro k hk2
    rcases g.k k hk2 with e | e
    · exact h.k k e
    · exact Or.inr (Nat.le_trans h.f.size e)
theorem After.mk {C : Phys} {lv lv1 : Value} {w w1 : World} {m : Mach} (h : Own w1 C lv1 m) (g : Acc C lv w lv1 w1) : After C lv w m w1 := ⟨lv1, h, g.f, g.k⟩

def Mach.jump (m : Mach) (n : Int) : Mach := { m with r := { m.r with ip := IntKind.u16.wrap (m.r.ip + n) } }

set_option maxHeartbeats 400000 in
theorem on_any (w : World) (C : Phys) (lv : Value) (m : Mach) (h : Own w C lv m) (n : Int) :
    Calls Tryz.prog 126 #[.pointer (some ⟨C.b, 0, none⟩), .int .u16 n] w fun e w' => e = .returned (.tuple #[]) ∧ After C lv w (m.jump n) w' := by
  have HO0 := Lib.hid h; have HA0 := Lib.hid (Acc.refl C lv w); have sc := HO0.out.sees.c; have sf := HO0.out.sees.f; have sr := HO0.out.sees.r; have ss := HO0.out.sees.s; have sl := HO0.out.sees.l; clear h
  go_enter Tryz.func126, Tryz.ntmps126
  go_wp2_with fail
  go_end0
  exact ⟨rfl, After.mk (HO0.out.setIP _ (wrap16_lo _) (wrap16_hi _)) (HA0.out.setB 24 _)⟩
end Go.Proofs.YtcglkefaopgjeaaGreatDoor
