/- Package core: registers' bytes. -/
import Derived.Test.YtcglkefaopgjeaaGreatDoorJ2
namespace Go.Proofs.YtcglkefaopgjeaaGreatDoor
set_option linter.unusedSimpArgs false
set_option linter.unusedVariables false
open Go.RowKit

set_option maxRecDepth 100000 in
set_option maxHeartbeats 1600000 in
theorem regByte_any (w : World) (C : Phys) (lv : Value) (m : Mach) (h : Own w C lv m) (n : Int) :
    Calls Tryz.prog 107 #[.pointer (some ⟨C.b, 0, none⟩), .int .i64 n] w fun e w' => e = .returned (V.val ⟨m.r.byteV n, false⟩) ∧ After C lv w (m.regByteM n) w' := by
  have HX0 := Lib.hid (Box.new h #[.int .u16 0, .bool false] 24)
  have hr := h.wf.r
  have hb := Regs.byte_wf hr n
  have HO0 := Lib.hid h; have HA0 := Lib.hid (Acc.refl C lv w); have sc := HO0.out.sees.c; have sf := HO0.out.sees.f; have sr := HO0.out.sees.r; have ss := HO0.out.sees.s; have sl := HO0.out.sees.l; clear h
  go_enter Tryz.func107, Tryz.ntmps107
  go_wp2_with fail
  refine (regsByte_any m.r hr n _).mono ?_
  obtain ⟨bv, hbv⟩ : ∃ bv, m.r.byteV n = bv := ⟨_, rfl⟩
  obtain ⟨bc, hbc⟩ : ∃ bc, m.r.byteC n = bc := ⟨_, rfl⟩
  have HV := Lib.hid hbv
  have HC := Lib.hid (show m.regByteM n = m.sure bc from by rw [Mach.regByteM, hbc])
  rw [hbv] at hb ⊢
  rw [hbc]
  clear hbv hbc hr
  obtain ⟨b0, b1⟩ := hb
  rintro e w1 ⟨rfl, hb⟩; dsimp only
  have HO1 := Lib.hid ((HO0.out.alloc _).below hb)
  have HA1 := Lib.hid ((HA0.out.alloc _).below hb)
  have HX1 := Lib.hid (HX0.out.below hb)
  clear sc sf sr ss sl; clear hb
  have NO := HX1.out.no
  have ap := HO0.out.apart (Nat.le_refl _)
  cases bc with
  | true =>
    have x1 := HX1.out.row.cell
    have x2 := HX1.out.row.frozen
    have x3 := HX1.out.row.lt
    go_wp2_with fail
    have hz := (HX1.out.row.setCell 0 (.int .u16 bv)).setCell 1 (.bool false)
    refine bodyPost_ret (v := V.val ⟨bv, false⟩) (results_row rfl _ _ _ _ _ _ rfl hz Tryz.underlying24 rfl (by kernel_rfl)) rfl ?_
    rw [HC.out, HV.out]
    exact ⟨rfl, After.mk ((HO1.out.setBox (p := ⟨w.heap.size, 0, none⟩) NO ap _).setBox (p := ⟨w.heap.size, 1, none⟩) NO ap _) ((HA1.out.setNew (p := ⟨w.heap.size, 0, none⟩) (Nat.le_refl _) _).setNew (p := ⟨w.heap.size, 1, none⟩) (Nat.le_refl _) _)⟩
  | false =>
    go_wp2_with fail
    refine (stuck_any _ _ _ _ HO1.out).mono ?_
    rintro e w2 ⟨rfl, lv2, h2, f2, k2⟩; dsimp only
    have HO2 := Lib.hid h2
    have HA2 := Lib.hid (HA1.out.trans ⟨f2, k2⟩)
    have HX2 := Lib.hid (HX1.out.step f2 k2)
    clear h2 f2 k2 NO
    have NO := HX2.out.no
    have x1 := HX2.out.row.cell
    have x2 := HX2.out.row.frozen
    have x3 := HX2.out.row.lt
    go_wp2_with fail
    have hz := (HX2.out.row.setCell 0 (.int .u16 bv)).setCell 1 (.bool false)
    refine bodyPost_ret (v := V.val ⟨bv, false⟩) (results_row rfl _ _ _ _ _ _ rfl hz Tryz.underlying24 rfl (by kernel_rfl)) rfl ?_
    rw [HC.out, HV.out]
    exact ⟨rfl, After.mk ((HO2.out.setBox (p := ⟨w.heap.size, 0, none⟩) NO ap _).setBox (p := ⟨w.heap.size, 1, none⟩) NO ap _) ((HA2.out.setNew (p := ⟨w.heap.size, 0, none⟩) (Nat.le_refl _) _).setNew (p := ⟨w.heap.size, 1, none⟩) (Nat.le_refl _) _)⟩

abbrev zero26 : Array Value := #[.int .u16 0, .bool false, .int .u16 0, .bool false, .int .u16 0, .bool false, .int .u16 0, .bool false, .int .u16 0, .bool false, .int .u16 0, .bool false, .int .u16 0, .bool false, .int .u16 0, .bool false, .int .u16 0, .bool false, .int .u16 0, .bool false, .int .u16 0, .bool false, .int .u16 0, .bool false, .int .u16 0, .int .u16 0]
theorem lt_n' (w : World) (o : Obj) : w.heap.size < (w.alloc o).heap.size := by rw [World.size_alloc]; exact Nat.lt_succ_self _
theorem row_d (w : World) (cs : Array Value) (t : TypeId) : Row (w.drew.alloc (.cells cs t)) w.heap.size cs t := Row.new' rfl
theorem lt_d (w : World) (o : Obj) : w.heap.size < (w.drew.alloc o).heap.size := by rw [World.size_alloc]; exact Nat.lt_succ_self _
theorem row_e (w : World) (cs : Array Value) (t : TypeId) : Row (w.alloc (.cells cs t)).drew w.heap.size cs t := Row.new w cs t
theorem lt_e (w : World) (o : Obj) : w.heap.size < (w.alloc o).drew.heap.size := lt_n' w o
theorem below_in {a b c : World} (h : Below a.heap.size a b) (k : Below b.heap.size b c) : Below a.heap.size a c := h.trans (k.mono h.size)
theorem row_on {w w' : World} (hb : Below w.heap.size w w') {g : Nat} {cs : Array Value} {t : TypeId} (h : Row w g cs t) : Row w' g cs t := Below.row hb h h.lt
@[go_sem] theorem regsIn_putR_ne (w : World) (g k : Nat) (r : Regs) (h : k ≠ g) : regsIn (putR w g r) k = regsIn w k := by
  unfold regsIn; rw [putR_other w g k r h]
@[go_sem] theorem stOk_putR_ne (w : World) (g k : Nat) (r : Regs) (h : k ≠ g) : stOk (putR w g r) k = stOk w k := by
  unfold stOk; rw [putR_other w g k r h]
theorem Own.putFresh {w wo : World} {C : Phys} {lv : Value} {m : Mach} (h : Own w C lv m) (ho : Own wo C lv m) {k : Nat} (hk : wo.heap.size ≤ k) (r : Regs) : Own (Go.Proofs.YtcglkefaopgjeaaGreatDoor.putR w k r) C lv m :=
  have no := ho.fresh hk
  have ap := ho.apart hk
  h.kept (own := fun b => b = k) (Fr.putR (Fr.refl (fun b => b = k) w) rfl r) (fun e => no (Or.inl e.symm)) ap.1 (fun e => no (Or.inr (Or.inl e.symm))) (fun e => no (Or.inr (Or.inr (Or.inl e.symm)))) (fun e => no (Or.inr (Or.inr (Or.inr (Or.inl e.symm))))) ap.2 (fun b hb e => no (Or.inr (Or.inr (Or.inr (Or.inr (e ▸ hb))))))
theorem Acc.putFresh {C : Phys} {lv lv1 : Value} {w w1 : World} (h : Acc C lv w lv1 w1) {k : Nat} (hk : w.heap.size ≤ k) (r : Regs) : Acc C lv w lv1 (Go.Proofs.YtcglkefaopgjeaaGreatDoor.putR w1 k r) :=
  ⟨⟨h.f.os, h.f.tape, h.f.output, by simpa using h.f.size, fun b hb ho => (putR_other w1 k b r (by omega)).trans (h.f.block b hb ho)⟩, h.k⟩
theorem below_alloc {a b : World} (h : Below a.heap.size a b) (o : Obj) : Below a.heap.size a (b.alloc o) := h.alloc h.size o

set_option maxRecDepth 100000 in
set_option maxHeartbeats 1600000 in
theorem setByte_any (w : World) (C : Phys) (lv : Value) (m : Mach) (h : Own w C lv m) (n : Int) (v : V) (hv : v.wf) :
    Calls Tryz.prog 202 #[.pointer (some ⟨C.b, 0, none⟩), .int .i64 n, v.val] w fun e w' => e = .returned (.tuple #[]) ∧ After C lv w (m.setRegByte n v.v) w' := by
  have hr := h.wf.r
  obtain ⟨v0, v1⟩ := hv
  have y0 : 0 ≤ v.v % 256 := by omega
  have y1 : v.v % 256 ≤ 255 := by omega
  have ho := h.alloc (.cells #[.int .u16 v.v, .bool v.t] 24)
  have hx := Row.new w #[.int .u16 v.v, .bool v.t] 24
  have ha := (Acc.refl C lv w).alloc (.cells #[.int .u16 v.v, .bool v.t] 24)
  obtain ⟨bc, hbc⟩ : ∃ bc, m.r.byteC n = bc := ⟨_, rfl⟩
  obtain ⟨R, hR⟩ : ∃ R, m.r.putByte n (v.v % 256) = R := ⟨_, rfl⟩
  have HW := Lib.hid (show R.wf from hR ▸ Regs.putByte_wf hr n _ y0 y1)
  have HC := Lib.hid (show m.setRegByte n v.v = if bc then m.setR R else m.stuck from by rw [Mach.setRegByte, hbc, hR])
  have kp := fun w => regsPutByte_any m.r hr n (v.v % 256) y0 y1 w
  rw [hbc, hR] at kp
  clear hbc hR hr
  go_enter Tryz.func202, Tryz.ntmps202
  go_wp2_with fail
  generalize w.alloc (.cells #[.int .u16 v.v, .bool v.t] 24) = W0 at *
  go_cut [6, 7] (fun s6 s7 wx => ∃ k : Nat, s6 = .pointer (some ⟨k, 0, none⟩) ∧ s7 = .bool bc ∧ Own wx C lv m ∧ Acc C lv w lv wx ∧ regsIn wx k = some R.val)
  case first =>
    have HO0 := Lib.hid ho
    have HA0 := Lib.hid ha
    have KP := Lib.hid kp
    have sr := ho.sees.r
    have sl := ho.row.lt
    have sc := ho.row.cell
    have xc := hx.cell
    have HX0 := Lib.hid hx
    have xl := hx.lt
    have f5 : ¬ C.b = W0.heap.size := Nat.ne_of_lt sl
    have f6 : ¬ W0.heap.size = C.b := Ne.symm (Nat.ne_of_lt sl)
    clear ho ha hx kp h
    have x0 : W0.cell? ⟨w.heap.size, 0, none⟩ = some (.int .u16 v.v) := xc 0
    clear xc sc
    go_region_held3 (fun w' => regsIn w' C.b = some m.r.val ∧ w'.cell? ⟨w.heap.size, 0, none⟩ = some (.int .u16 v.v)) ((refine ⟨?_, ?_⟩; (focus ((repeat (first | assumption | (rw [regsIn_drew]) | (rw [regsIn_putR_ne _ _ _ _ (by first | assumption | omega)]) | (rw [regsIn_alloc_past _ _ _ (by first | assumption | (simp; omega))]))); done)); (focus ((try rw [cell_putR _ _ _ _ _ (by first | assumption | omega)]); go_keep)))) (first | (go_at_call 85; refine (low_any _ _ v0 v1).mono ?_; rintro e w' ⟨rfl, rfl⟩) | (go_at_call 215; refine (KP.out _).mono ?_; rintro e w9 ⟨rfl, hb⟩; have HO9 := Lib.hid (Own.below (C := C) (lv := lv) (m := m) (by (repeat (first | exact HO0.out | refine Own.alloc ?_ _ | refine Own.drew ?_))) hb); have HA9 := Lib.hid (Acc.below (C := C) (lv := lv) (lv1 := lv) (w := w) (by (repeat (first | exact HA0.out | refine Acc.alloc ?_ _ | refine Acc.drew ?_))) hb); have X9 : Row w9 w.heap.size #[.int .u16 v.v, .bool v.t] 24 := row_on hb (by (repeat (first | exact HX0.out | refine Row.alloc ?_ _ | refine Row.drew ?_))); have y0 : w9.cell? ⟨w.heap.size, 0, none⟩ = some (.int .u16 v.v) := X9.cell 0; have x_l := X9.lt; have l09 : W0.heap.size ≤ w9.heap.size := Nat.le_trans (by simp) hb.size; have s_r := HO9.out.sees.r; have s_l := HO9.out.row.lt; have f3 : ¬ C.b = w9.heap.size := Nat.ne_of_lt s_l; have f4 : ¬ w9.heap.size = C.b := Ne.symm (Nat.ne_of_lt s_l); (try ((first | with_reducible have R9 := Below.row hb (row_d W0 zero26 28) (lt_d W0 _) | with_reducible have R9 := Below.row hb (row_e W0 zero26 28) (lt_e W0 _)); have st9 := stOk_row R9 (by decide))); clear hb))
    all_goals
      go_wp2_with fail
      go_meet
      first
        | exact ⟨_, rfl, rfl, (HO9.out.alloc _).putFresh HO9.out (Nat.le_refl _) _, (HA9.out.alloc _).putFresh (Nat.le_trans (Nat.le_of_lt xl) l09) _, regsIn_putR _ _ _ (stOk_alloc_at _ _ _ _ rfl (by decide))⟩
        | exact ⟨_, rfl, rfl, HO9.out.putFresh HO0.out (Nat.le_refl _) _, HA9.out.putFresh (Nat.le_of_lt xl) _, regsIn_putR _ _ _ st9⟩
  case rest =>
    obtain ⟨k, rfl, rfl, h1, a1, r1⟩ := hcut
    have HO1 := Lib.hid h1
    have HA1 := Lib.hid a1
    clear h1 a1 ho hx ha kp h
    cases bc with
    | false =>
      go_wp2_with fail
      refine (stuck_any _ _ _ _ HO1.out).mono ?_
      rintro e w2 ⟨rfl, lv2, h2, f2, k2⟩; dsimp only
      have HO2 := Lib.hid h2
      have HA2 := Lib.hid (HA1.out.trans ⟨f2, k2⟩)
      clear h2 f2 k2
      go_wp2_with fail
      ((try simp only [Exit.inBlock, Exit.then]); refine bodyPost_ret (results_none rfl _ _ _) rfl ?_)
      rw [HC.out, if_neg (by decide)]
      exact ⟨rfl, After.mk HO2.out HA2.out⟩
    | true =>
      have sc := HO1.out.sees.c
      have ss := HO1.out.sees.s
      have sl := HO1.out.row.lt
      go_wp2_with fail
      go_end0
      rw [HC.out, if_pos trivial]
      exact ⟨rfl, After.mk (HO1.out.putR R HW.out) (HA1.out.putR R)⟩
end Go.Proofs.YtcglkefaopgjeaaGreatDoor
