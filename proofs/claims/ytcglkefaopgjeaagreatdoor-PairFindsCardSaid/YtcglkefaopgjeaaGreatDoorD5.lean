/- core.Machine.SetWord. -/
import Derived.Test.YtcglkefaopgjeaaGreatDoorD4
import Derived.Test.YtcglkefaopgjeaaGreatDoorB3
import Derived.Test.YtcglkefaopgjeaaGreatDoorE1
import Derived.StillTailTactics
namespace Go.Proofs.YtcglkefaopgjeaaGreatDoor
set_option linter.unusedSimpArgs false
set_option linter.unusedVariables false
open Go.RowKit

def Mach.putWord (m : Mach) (seg : V) (off : Int) (v : V) : Mach := { m with mem := Go.Proofs.YtcglkefaopgjeaaGreatDoor.setF m.mem (lin seg.v off) (lin seg.v (succW off)) v.v, tag := setT m.tag (lin seg.v off) (lin seg.v (succW off)) v.t }
def Mach.setWordOk (m : Mach) (seg : V) (off : Int) (v : V) : Bool := m.owns seg off 2 && m.wordC seg off && !(v.t && off == 65535)
def Mach.setWord (m : Mach) (seg : V) (off : Int) (v : V) : Mach := if m.setWordOk seg off v then m.putWord seg off v else m.stuck

theorem Own.setMem {w w' : World} {C : Phys} {lv : Value} {m : Mach} {f t : Nat → Int} (h : Own w C lv m) (hf : Fr (ownM C.bb C.tb) w w') (hm : MemAt w' C.mb C.bb C.tb f t) : Own w' C lv { m with mem := f, tag := t } := by
  have nb : ¬ ownM C.bb C.tb C.b := by rintro (e | e); exact h.n2 e; exact h.n3 e
  have l3 := h.l3
  have l4 := h.l4
  refine ⟨hf.row h.row nb, hm, h.wor.kept hf (by rintro (e | e); exact h.n6 e.symm; exact h.n7 e.symm) (fun g hg => ?_) (fun g hg => ?_), ⟨h.wf.r, h.wf.base, h.wf.size⟩, h.n1, h.n2, h.n3, h.n4, h.n5, h.n6, h.n7, h.l1, h.l2, h.l3, h.l4, h.ra⟩
  · have := h.ra g hg
    rintro (e | e)
    · exact this.2.2.1 e
    · exact this.2.2.2 e
  · have := (h.lvlt hg).1
    rintro (e | e) <;> omega
theorem ownM_own (C : Phys) (lv : Value) : ∀ k, ownM C.bb C.tb k → C.own lv k := by
  rintro k (e | e)
  · exact Or.inr (Or.inl e)
  · exact Or.inr (Or.inr (Or.inl e))
theorem Acc.setMem {C : Phys} {lv lv1 : Value} {w w1 w2 : World} (h : Acc C lv w lv1 w1) (hf : Fr (ownM C.bb C.tb) w1 w2) : Acc C lv w lv1 w2 := ⟨h.f.trans (hf.mono (ownM_own C lv)), h.k⟩

set_option maxRecDepth 100000 in
set_option maxHeartbeats 1600000 in
theorem setWord_any (w : World) (C : Phys) (lv : Value) (m : Mach) (h : Own w C lv m) (seg : V) (off : Int) (v : V) (hs : seg.wf) (h0 : 0 ≤ off) (h1 : off ≤ 65535) (hv : v.wf) :
    Calls Tryz.prog 173 #[.pointer (some ⟨C.b, 0, none⟩), P3 seg off, v.val] w fun e w' => e = .returned (.tuple #[]) ∧ After C lv w (m.setWord seg off v) w' := by
  have ho := (h.alloc (.cells #[.int .u16 seg.v, .bool seg.t, .int .u16 off] 52)).alloc (.cells #[.int .u16 v.v, .bool v.t] 24)
  have ha := ((Acc.refl C lv w).alloc (.cells #[.int .u16 seg.v, .bool seg.t, .int .u16 off] 52)).alloc (.cells #[.int .u16 v.v, .bool v.t] 24)
  have hx := (Box.new h #[.int .u16 seg.v, .bool seg.t, .int .u16 off] 52).alloc (.cells #[.int .u16 v.v, .bool v.t] 24)
  have hy := Box.new (h.alloc (.cells #[.int .u16 seg.v, .bool seg.t, .int .u16 off] 52)) #[.int .u16 v.v, .bool v.t] 24
  rw [World.size_alloc] at hy
  have s0 := hs.1
  have s1 := hs.2
  have v0 := hv.1
  have v1 := hv.2
  go_enter Tryz.func173, Tryz.ntmps173
  go_wp2_with fail
  generalize (w.alloc (.cells #[.int .u16 seg.v, .bool seg.t, .int .u16 off] 52)).alloc (.cells #[.int .u16 v.v, .bool v.t] 24) = W0 at *
  have c26 : W0.cell? ⟨C.b, 26, none⟩ = some (.pointer (some ⟨C.mb, 0, none⟩)) := (ho.row.cell 26).trans (mcell26 C m)
  have x0 : W0.cell? ⟨w.heap.size, 0, none⟩ = some (.int .u16 seg.v) := hx.row.cell 0
  have x2 : W0.cell? ⟨w.heap.size, 2, none⟩ = some (.int .u16 off) := hx.row.cell 2
  have HO := Lib.hid ho
  have HA := Lib.hid ha
  have HX := Lib.hid hx
  have HY := Lib.hid hy
  have HM := Lib.hid ho.mem
  have lb := ho.row.lt
  have lx := hx.row.lt
  have ne1 : ¬ C.b = W0.heap.size := by omega
  have ne2 : ¬ W0.heap.size = C.b := by omega
  have ne3 : ¬ w.heap.size = W0.heap.size := by omega
  have ne4 : ¬ W0.heap.size = w.heap.size := by omega
  clear ho ha hx hy h
  go_cut [6, 7] (fun s6 s7 wx => s7 = .bool (m.wordC seg off) ∧ Below W0.heap.size W0 wx)
  case first =>
    go_region_held3 (fun w' => w'.cell? ⟨C.b, 26, none⟩ = some (.pointer (some ⟨C.mb, 0, none⟩)) ∧ w'.cell? ⟨w.heap.size, 0, none⟩ = some (.int .u16 seg.v) ∧ w'.cell? ⟨w.heap.size, 2, none⟩ = some (.int .u16 off)) (go_keep) ((go_at_call 63; refine (memWord_any C.mb C.bb C.tb m.mem m.tag _ (by repeat (first | exact HM.out | refine MemAt.alloc ?_ _ | refine MemAt.drew ?_ | refine MemAt.drewN ?_)) seg.v off s0 s1 h0 h1).mono ?_; rintro e w1 ⟨rfl, hb1⟩; have y0 := (hb1.cell (p := ⟨C.b, 26, none⟩) (by have := HO.out.row.lt; simp <;> omega)); have y1 := (hb1.cell (p := ⟨w.heap.size, 0, none⟩) (by have := HX.out.row.lt; simp <;> omega)); have y2 := (hb1.cell (p := ⟨w.heap.size, 2, none⟩) (by have := HX.out.row.lt; simp <;> omega)); simp [World.cell?_alloc_some, c26, x0, x2] at y0 y1 y2; have z0 : ∀ j, W0.heap.size < _ → w1.cell? ⟨W0.heap.size, j, none⟩ = _ := fun j hj => hb1.cell hj; have z1 : ∀ j, W0.heap.size < _ → w1.frozen? ⟨W0.heap.size, j, none⟩ = _ := fun j hj => hb1.frozen hj; have z2 := hb1.size; simp at z2; have HB1 := Lib.hid hb1; clear hb1))
    · go_wp2_with fail
      go_meet
      have hb2 := (Below.refl W0.heap.size W0).drew.trans HB1.out
      exact ⟨rfl, hb2.alloc hb2.size _⟩
    · go_wp2_with fail
      go_meet
      have hb2 := (((Below.refl W0.heap.size W0).alloc (Nat.le_refl _) _).drew).trans (HB1.out.mono (by simp))
      exact ⟨rfl, (hb2.setCell (Nat.le_refl _) _).setCell (Nat.le_refl _) _⟩
  case rest =>
    obtain ⟨rfl, hbw⟩ := hcut
    have HO1 := Lib.hid (HO.out.below hbw)
    have HA1 := Lib.hid (HA.out.below hbw)
    have HX1 := Lib.hid (HX.out.below hbw)
    have HY1 := Lib.hid (HY.out.below hbw)
    have z1 := HX1.out.row.cell
    have z2 := HY1.out.row.cell
    clear c26 x0 x2 ne1 ne2 ne3 ne4 lb lx hbw HO HX HY HA HM
    go_wp2_with fail
    refine (Own_any _ _ _ _ HO1.out seg off hs 2 (by decide)).mono ?_
    rintro e w2 ⟨rfl, hb2⟩; dsimp only
    have HO2 := Lib.hid (HO1.out.below hb2)
    have HA2 := Lib.hid (HA1.out.below hb2)
    have HX2 := Lib.hid (HX1.out.below hb2)
    have HY2 := Lib.hid (HY1.out.below hb2)
    clear z1 z2 hb2
    have z1 := HX2.out.row.cell
    have z2 := HY2.out.row.cell
    have c26 : w2.cell? ⟨C.b, 26, none⟩ = some (.pointer (some ⟨C.mb, 0, none⟩)) := (HO2.out.row.cell 26).trans (mcell26 C m)
    obtain ⟨ok, hok⟩ : ∃ ok, m.owns seg off 2 = ok := ⟨_, rfl⟩
    obtain ⟨cl, hcl⟩ : ∃ cl, m.wordC seg off = cl := ⟨_, rfl⟩
    obtain ⟨eg, heg⟩ : ∃ eg, (off == 65535) = eg := ⟨_, rfl⟩
    have HS := Lib.hid (show m.setWord seg off v = if (ok && cl && !(v.t && eg)) then m.putWord seg off v else m.stuck by rw [Mach.setWord, Mach.setWordOk, hok, hcl, heg])
    rw [hok, hcl]
    clear hok hcl
    obtain ⟨vv, vt⟩ := v
    dsimp only at v0 v1 z2
    cases ok <;> cases cl <;> cases vt <;> cases eg
    case true.true.false.false =>
      have HS2 := Lib.hid (show _ = m.putWord seg off ⟨vv, _⟩ from HS.out)
      clear HS
      go_wp2_with fail
      go_still_tail 10, (by kernel_rfl)
      change wpList _ _ _ _ _ w2.drew
      have HO3 := Lib.hid HO2.out.drew
      have HA3 := Lib.hid HA2.out.drew
      have HX3 := Lib.hid HX2.out.drew
      have HY3 := Lib.hid HY2.out.drew
      clear z1 z2 c26
      generalize w2.drew = w3 at *
      have z1 := HX3.out.row.cell
      have z2 := HY3.out.row.cell
      have c26 : w3.cell? ⟨C.b, 26, none⟩ = some (.pointer (some ⟨C.mb, 0, none⟩)) := (HO3.out.row.cell 26).trans (mcell26 C m)
      go_wp2_with fail
      refine (memSetWord_any C.mb C.bb C.tb m.mem m.tag _ HO3.out.mem seg.v off s0 s1 h0 h1 ⟨vv, _⟩ v0 v1).mono ?_
      rintro e w4 ⟨rfl, hm4, f4⟩; dsimp only
      have HO4 := Lib.hid (HO3.out.setMem f4 hm4)
      have HA4 := Lib.hid (HA3.out.setMem f4)
      clear hm4 f4
      go_wp2_with fail
      go_end0
      rw [HS2.out]
      exact ⟨rfl, After.mk HO4.out HA4.out⟩
    case true.true.false.true =>
      have HS2 := Lib.hid (show _ = m.putWord seg off ⟨vv, _⟩ from HS.out)
      clear HS
      go_wp2_with fail
      go_still_tail 10, (by kernel_rfl)
      change wpList _ _ _ _ _ w2.drew
      have HO3 := Lib.hid HO2.out.drew
      have HA3 := Lib.hid HA2.out.drew
      have HX3 := Lib.hid HX2.out.drew
      have HY3 := Lib.hid HY2.out.drew
      clear z1 z2 c26
      generalize w2.drew = w3 at *
      have z1 := HX3.out.row.cell
      have z2 := HY3.out.row.cell
      have c26 : w3.cell? ⟨C.b, 26, none⟩ = some (.pointer (some ⟨C.mb, 0, none⟩)) := (HO3.out.row.cell 26).trans (mcell26 C m)
      go_wp2_with fail
      refine (memSetWord_any C.mb C.bb C.tb m.mem m.tag _ HO3.out.mem seg.v off s0 s1 h0 h1 ⟨vv, _⟩ v0 v1).mono ?_
      rintro e w4 ⟨rfl, hm4, f4⟩; dsimp only
      have HO4 := Lib.hid (HO3.out.setMem f4 hm4)
      have HA4 := Lib.hid (HA3.out.setMem f4)
      clear hm4 f4
      go_wp2_with fail
      go_end0
      rw [HS2.out]
      exact ⟨rfl, After.mk HO4.out HA4.out⟩
    case true.true.true.false =>
      have HS2 := Lib.hid (show _ = m.putWord seg off ⟨vv, _⟩ from HS.out)
      clear HS
      go_wp2_with fail
      go_still_tail 10, (by kernel_rfl)
      change wpList _ _ _ _ _ w2.drew
      have HO3 := Lib.hid HO2.out.drew
      have HA3 := Lib.hid HA2.out.drew
      have HX3 := Lib.hid HX2.out.drew
      have HY3 := Lib.hid HY2.out.drew
      clear z1 z2 c26
      generalize w2.drew = w3 at *
      have z1 := HX3.out.row.cell
      have z2 := HY3.out.row.cell
      have c26 : w3.cell? ⟨C.b, 26, none⟩ = some (.pointer (some ⟨C.mb, 0, none⟩)) := (HO3.out.row.cell 26).trans (mcell26 C m)
      go_wp2_with fail
      refine (memSetWord_any C.mb C.bb C.tb m.mem m.tag _ HO3.out.mem seg.v off s0 s1 h0 h1 ⟨vv, _⟩ v0 v1).mono ?_
      rintro e w4 ⟨rfl, hm4, f4⟩; dsimp only
      have HO4 := Lib.hid (HO3.out.setMem f4 hm4)
      have HA4 := Lib.hid (HA3.out.setMem f4)
      clear hm4 f4
      go_wp2_with fail
      go_end0
      rw [HS2.out]
      exact ⟨rfl, After.mk HO4.out HA4.out⟩
    all_goals
      have HS2 := Lib.hid (show _ = m.stuck from HS.out)
      clear HS
      go_wp2_with (go_at_call 38; refine (stuck_any _ _ _ _ HO2.out).mono ?_; rintro e w3 ⟨rfl, lv3, h3, f3, k3⟩; have HO3 := Lib.hid h3; have HA3 := Lib.hid (HA2.out.trans ⟨f3, k3⟩); clear h3 f3 k3)
      ((try simp only [Exit.inBlock, Exit.then]); refine bodyPost_ret (results_none rfl _ _ _) rfl ?_)
      rw [HS2.out]
      exact ⟨rfl, After.mk HO3.out HA3.out⟩
end Go.Proofs.YtcglkefaopgjeaaGreatDoor
