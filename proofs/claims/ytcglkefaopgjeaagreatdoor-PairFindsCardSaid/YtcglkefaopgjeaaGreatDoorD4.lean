/- Contracts of package core: words of memory. -/
import Derived.Test.YtcglkefaopgjeaaGreatDoorD3
import Derived.Deep.DeepCutAuto
namespace Go.Proofs.YtcglkefaopgjeaaGreatDoor
set_option linter.unusedSimpArgs false
set_option linter.unusedVariables false
open Go.RowKit

def Mach.wordV (m : Mach) (seg : V) (off : Int) : V := mwordV m.mem m.tag (lin seg.v off) (lin seg.v (succW off))
def Mach.wordC (m : Mach) (seg : V) (off : Int) : Bool := mwordC m.tag (lin seg.v off) (lin seg.v (succW off))
def Mach.wordOk (m : Mach) (seg : V) (off : Int) : Bool := m.wordC seg off && m.owns seg off 2
def Mach.wordS (m : Mach) (seg : V) (off : Int) : Mach := if m.wordOk seg off then m else m.stuck

set_option maxRecDepth 100000 in
set_option maxHeartbeats 400000 in
theorem word_any (w : World) (C : Phys) (lv : Value) (m : Mach) (h : Own w C lv m) (seg : V) (off : Int) (hs : seg.wf) (h0 : 0 ≤ off) (h1 : off ≤ 65535) :
    Calls Tryz.prog 110 #[.pointer (some ⟨C.b, 0, none⟩), P3 seg off] w fun e w' => e = .returned (m.wordV seg off).val ∧ After C lv w (m.wordS seg off) w' := by
  have ho := (h.alloc (.cells #[.int .u16 seg.v, .bool seg.t, .int .u16 off] 52)).alloc (.cells #[.int .u16 0, .bool false] 24)
  have hb := ((Below.refl w.heap.size w).alloc (Nat.le_refl _) (.cells #[.int .u16 seg.v, .bool seg.t, .int .u16 off] 52)).alloc (by simp) (.cells #[.int .u16 0, .bool false] 24)
  have hx := (Box.new h #[.int .u16 seg.v, .bool seg.t, .int .u16 off] 52).alloc (.cells #[.int .u16 0, .bool false] 24)
  have hy := Box.new (h.alloc (.cells #[.int .u16 seg.v, .bool seg.t, .int .u16 off] 52)) #[.int .u16 0, .bool false] 24
  rw [World.size_alloc] at hy
  have H := Lib.hid h
  have s0 := hs.1
  have s1 := hs.2
  go_enter Tryz.func110, Tryz.ntmps110
  go_wp2_with fail
  generalize (w.alloc (.cells #[.int .u16 seg.v, .bool seg.t, .int .u16 off] 52)).alloc (.cells #[.int .u16 0, .bool false] 24) = W0 at *
  have c26 : W0.cell? ⟨C.b, 26, none⟩ = some (.pointer (some ⟨C.mb, 0, none⟩)) := (ho.row.cell 26).trans (mcell26 C m)
  have x0 : W0.cell? ⟨w.heap.size, 0, none⟩ = some (.int .u16 seg.v) := hx.row.cell 0
  have x2 : W0.cell? ⟨w.heap.size, 2, none⟩ = some (.int .u16 off) := hx.row.cell 2
  have HO := Lib.hid ho
  have HB := Lib.hid hb
  have HX := Lib.hid hx
  have HY := Lib.hid hy
  have HM := Lib.hid ho.mem
  have lb := ho.row.lt
  have lx := hx.row.lt
  have ne1 : ¬ C.b = W0.heap.size := by omega
  have ne2 : ¬ W0.heap.size = C.b := by omega
  have ne3 : ¬ w.heap.size = W0.heap.size := by omega
  have ne4 : ¬ W0.heap.size = w.heap.size := by omega
  clear ho hb hx hy h
  go_cut [5, 6] (fun s5 s6 wx => ∃ k : Nat, s5 = .pointer (some ⟨k, 0, none⟩) ∧ s6 = .bool (m.wordC seg off) ∧ Below W0.heap.size W0 wx ∧ W0.heap.size ≤ k ∧ Row wx k #[.int .u16 (m.wordV seg off).v, .bool (m.wordV seg off).t] 24)
  case first =>
    go_region_held3 (fun w' => w'.cell? ⟨C.b, 26, none⟩ = some (.pointer (some ⟨C.mb, 0, none⟩)) ∧ w'.cell? ⟨w.heap.size, 0, none⟩ = some (.int .u16 seg.v) ∧ w'.cell? ⟨w.heap.size, 2, none⟩ = some (.int .u16 off)) (go_keep) ((go_at_call 63; refine (memWord_any C.mb C.bb C.tb m.mem m.tag _ (by repeat (first | exact HM.out | refine MemAt.alloc ?_ _ | refine MemAt.drew ?_ | refine MemAt.drewN ?_)) seg.v off s0 s1 h0 h1).mono ?_; rintro e w1 ⟨rfl, hb1⟩; have y0 := (hb1.cell (p := ⟨C.b, 26, none⟩) (by have := HO.out.row.lt; simp <;> omega)); have y1 := (hb1.cell (p := ⟨w.heap.size, 0, none⟩) (by have := HX.out.row.lt; simp <;> omega)); have y2 := (hb1.cell (p := ⟨w.heap.size, 2, none⟩) (by have := HX.out.row.lt; simp <;> omega)); simp [World.cell?_alloc_some, c26, x0, x2] at y0 y1 y2; have z0 : ∀ j, W0.heap.size < _ → w1.cell? ⟨W0.heap.size, j, none⟩ = _ := fun j hj => hb1.cell hj; have z1 : ∀ j, W0.heap.size < _ → w1.frozen? ⟨W0.heap.size, j, none⟩ = _ := fun j hj => hb1.frozen hj; have z2 := hb1.size; simp at z2; have HB1 := Lib.hid hb1; clear hb1))
    · go_wp2_with fail
      go_meet
      have hb2 := (Below.refl W0.heap.size W0).drew.trans HB1.out
      exact ⟨w1.heap.size, rfl, rfl, hb2.alloc hb2.size _, hb2.size, Row.new _ _ _⟩
    · go_wp2_with fail
      go_meet
      have hb2 := (((Below.refl W0.heap.size W0).alloc (Nat.le_refl _) _).drew).trans (HB1.out.mono (by simp))
      have hr2 := Below.row HB1.out (Row.new W0 #[.int .u16 0, .bool false] 24).drew (by simp)
      exact ⟨W0.heap.size, rfl, rfl, (hb2.setCell (Nat.le_refl _) _).setCell (Nat.le_refl _) _, Nat.le_refl _, (hr2.setCell 0 _).setCell 1 _⟩
  case rest =>
    obtain ⟨k, rfl, rfl, hbw, hk, hrow⟩ := hcut
    have HO1 := Lib.hid (HO.out.below hbw)
    have HK := Lib.hid (Box.mk (C := C) (lv := lv) hrow (HO.out.fresh hk))
    have HX1 := Lib.hid (HX.out.below hbw)
    have HY1 := Lib.hid (HY.out.below hbw)
    have HB2 := Lib.hid (HB.out.trans (hbw.mono HB.out.size))
    have z0 := hrow.cell
    have z1 := HX1.out.row.cell
    have z2 := HY1.out.row.cell
    have z3 := HY1.out.row.frozen
    have l0 := hrow.lt
    clear c26 x0 x2 ne1 ne2 ne3 ne4 lb lx hbw hrow HO HX HY HB HM
    cases hwc : m.wordC seg off with
    | false =>
      have hb : m.wordS seg off = m.stuck := by rw [Mach.wordS, Mach.wordOk, hwc, Bool.false_and, if_neg (by decide)]
      have HS := Lib.hid hb
      clear hb hwc
      go_wp2_with (go_at_call 38; refine (stuck_any _ _ _ _ HO1.out).mono ?_; rintro e w2 ⟨rfl, lv2, h2, f2, k2⟩; have HA := Lib.hid (show After C lv wc m.stuck w2 from ⟨lv2, h2, f2, k2⟩); have u0 := (HK.out.step f2 k2).row.cell; have u2 := (HY1.out.step f2 k2).row.cell; have u3 := (HY1.out.step f2 k2).row.frozen; have HR := Lib.hid (HY1.out.step f2 k2).row; clear z0 z1 z2 z3 h2 f2 k2)
      refine bodyPost_ret (v := (m.wordV seg off).val) (by simp [results, Tryz.results110, go_sem, *]) rfl ⟨rfl, ?_⟩
      rw [HS.out]
      exact After.box H.out HB2.out HA.out (g := w.heap.size + 1) (by omega) HY1.out.row.lt (Fr.two _ _ _ _ _ _)
    | true =>
      cases how : m.owns seg off 2 with
      | true =>
        have hb : m.wordS seg off = m := by rw [Mach.wordS, Mach.wordOk, hwc, how, if_pos (by decide)]
        have HS := Lib.hid hb
        have HW := Lib.hid how
        clear hb hwc how
        go_wp2_with (go_at_call 100; refine (Own_any _ _ _ _ HO1.out seg off hs 2 (by decide)).mono ?_; rw [HW.out]; rintro e w2 ⟨rfl, hb2⟩; have HA := Lib.hid hb2; have u0 := (HK.out.below hb2).row.cell; have u2 := (HY1.out.below hb2).row.cell; have u3 := (HY1.out.below hb2).row.frozen; clear z0 z1 z2 z3 hb2)
        refine bodyPost_ret (v := (m.wordV seg off).val) (by simp [results, Tryz.results110, go_sem, *]) rfl ⟨rfl, ?_⟩
        rw [HS.out]
        exact After.box H.out HB2.out ((After.of_own HO1.out (Fr.refl _ _)).post HA.out) (g := w.heap.size + 1) (by omega) HY1.out.row.lt (Fr.two _ _ _ _ _ _)
      | false =>
        have hb : m.wordS seg off = m.stuck := by rw [Mach.wordS, Mach.wordOk, hwc, how, if_neg (by decide)]
        have HS := Lib.hid hb
        have HW := Lib.hid how
        clear hb hwc how
        go_wp2_with (first | (go_at_call 100; refine (Own_any _ _ _ _ HO1.out seg off hs 2 (by decide)).mono ?_; rw [HW.out]; rintro e w2 ⟨rfl, hb2⟩; have HA := Lib.hid hb2; have HO2 := Lib.hid (HO1.out.below hb2); have HK2 := Lib.hid (HK.out.below hb2); have HY2 := Lib.hid (HY1.out.below hb2); clear z0 z1 z2 z3 hb2) | (go_at_call 38; refine (stuck_any _ _ _ _ HO2.out).mono ?_; rintro e w3 ⟨rfl, lv2, h2, f2, k2⟩; have HA3 := Lib.hid (show After C lv w2 m.stuck w3 from ⟨lv2, h2, f2, k2⟩); have u0 := (HK2.out.step f2 k2).row.cell; have u2 := (HY2.out.step f2 k2).row.cell; have u3 := (HY2.out.step f2 k2).row.frozen; clear h2 f2 k2))
        refine bodyPost_ret (v := (m.wordV seg off).val) (by simp [results, Tryz.results110, go_sem, *]) rfl ⟨rfl, ?_⟩
        rw [HS.out]
        exact After.box H.out HB2.out (After.pre (Fr.of_below HA.out) (fun _ hk => Or.inl hk) HA3.out) (g := w.heap.size + 1) (by omega) HY1.out.row.lt (Fr.two _ _ _ _ _ _)
end Go.Proofs.YtcglkefaopgjeaaGreatDoor
