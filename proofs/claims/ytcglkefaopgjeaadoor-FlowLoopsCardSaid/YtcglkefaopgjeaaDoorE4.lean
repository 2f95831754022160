/- flow.loop; flow.Do of loops. -/
import Derived.Test.YtcglkefaopgjeaaDoorE3
namespace Go.Proofs.YtcglkefaopgjeaaDoor
set_option linter.unusedSimpArgs false
set_option linter.unusedVariables false
open Go.RowKit

def z5 (f : Int) : Bool := fl f 64
/-- What counts CX, or asks it. -/
def Mach.loop (m : Mach) (name n : Int) : Mach :=
  if name = 77 then (if m.r.g1.v = 0 then m.jump n else m)
  else
    let c := IntKind.u16.wrap (m.r.g1.v - 1)
    let m2 := m.setR (m.r.put 1 ⟨c, false⟩)
    if c ≠ 0 ∧ (name = 76 ∨ fl m.r.f 64 = decide (name = 75)) then m2.jump n else m2

theorem Regs.put1_wf {r : Regs} (h : r.wf) {x : V} (hx : x.wf) : (r.put 1 x).wf := by
  show ({ r with g1 := x } : Regs).wf
  exact { h with g1 := hx }

set_option maxRecDepth 100000 in
set_option maxHeartbeats 1600000 in
theorem loop_any (w : World) (C : Phys) (lv : Value) (m : Mach) (h : Own w C lv m) (name n : Int) (h0 : 74 ≤ name) (h1 : name ≤ 77) (ht : m.r.g1.t = false) :
    Calls Tryd.prog 28 #[.pointer (some ⟨C.b, 0, none⟩), .int .i64 name, .int .u16 n] w fun e w' => e = .returned (.tuple #[]) ∧ After C lv w (m.loop name n) w' := by
  have hg : m.r.get 1 = ⟨m.r.g1.v, false⟩ := by show m.r.g1 = _; rw [← ht]
  have HG := Lib.hid hg
  clear hg ht
  have b0 := h.wf.r.g1.1
  have b1 := h.wf.r.g1.2
  have HO0 := Lib.hid h; have HA0 := Lib.hid (Acc.refl C lv w); have sc := HO0.out.sees.c; have sf := HO0.out.sees.f; have sr := HO0.out.sees.r; have ss := HO0.out.sees.s; have sl := HO0.out.sees.l; clear h
  go_enter Tryd.func28, Tryd.ntmps28
  go_wp2_with fail
  refine (get_any _ _ _).mono ?_
  rw [HG.out]
  rintro e w1 ⟨rfl, hb⟩; have HO1 := Lib.hid (HO0.out.below hb); have HA1 := Lib.hid (HA0.out.below hb); clear sc sf sr ss sl; clear hb; have sc := HO1.out.sees.c; have sf := HO1.out.sees.f; have sr := HO1.out.sees.r; have ss := HO1.out.sees.s; have sl := HO1.out.sees.l
  dsimp only
  go_wp2_with fail
  refine (plain_yes _ _ _ _ HO1.out _).mono ?_
  rintro e w2 ⟨rfl, hb⟩; have HO2 := Lib.hid (HO1.out.below hb); have HA2 := Lib.hid (HA1.out.below hb); clear sc sf sr ss sl; clear hb; have sc := HO2.out.sees.c; have sf := HO2.out.sees.f; have sr := HO2.out.sees.r; have ss := HO2.out.sees.s; have sl := HO2.out.sees.l
  dsimp only
  by_cases e77 : name = 77
  · subst e77
    by_cases e0 : m.r.g1.v = 0
    · have t0 : (m.r.g1.v == 0) = true := by simp [e0]
      have E0 := Lib.hid e0
      clear e0
      go_wp2_with (go_at_call 29; refine (on_any _ _ _ _ HO2.out _).mono ?_; rintro e w3 ⟨rfl, lv3, h1, f1, k1⟩; have HO3 := Lib.hid h1; have HA3 := Lib.hid (HA2.out.trans ⟨f1, k1⟩); clear sc sf sr ss sl; clear h1 f1 k1; have sc := HO3.out.sees.c; have sf := HO3.out.sees.f; have sr := HO3.out.sees.r; have ss := HO3.out.sees.s; have sl := HO3.out.sees.l)
      ((try simp only [Exit.inBlock, Exit.then]); refine bodyPost_ret (results_none rfl _ _ _) rfl ?_)
      rw [Mach.loop, if_pos rfl, if_pos E0.out]
      exact ⟨rfl, After.mk HO3.out HA3.out⟩
    · have t0 : (m.r.g1.v == 0) = false := by simp [e0]
      have E0 := Lib.hid e0
      clear e0
      go_wp2_with fail
      ((try simp only [Exit.inBlock, Exit.then]); refine bodyPost_ret (results_none rfl _ _ _) rfl ?_)
      rw [Mach.loop, if_pos rfl, if_neg E0.out]
      exact ⟨rfl, After.mk HO2.out HA2.out⟩
  · have t77 : (name == 77) = false := by simp [e77]
    have E77 := Lib.hid e77
    clear e77
    obtain ⟨zb, hz⟩ : ∃ zb, fl m.r.f 64 = zb := ⟨_, rfl⟩
    have HZ := Lib.hid (show (andW (m.r.put 1 ⟨IntKind.u16.wrap (m.r.g1.v - 1), false⟩).f 64 != 0) = zb from hz)
    have HZ2 := Lib.hid hz
    clear hz
    have fin : ∀ (cond : Bool), (cond = decide (IntKind.u16.wrap (m.r.g1.v - 1) ≠ 0 ∧ (name = 76 ∨ zb = decide (name = 75)))) → m.loop name n = if cond then (m.setR (m.r.put 1 ⟨IntKind.u16.wrap (m.r.g1.v - 1), false⟩)).jump n else m.setR (m.r.put 1 ⟨IntKind.u16.wrap (m.r.g1.v - 1), false⟩) := by
      intro cond hc
      rw [Mach.loop, if_neg E77.out, HZ2.out, hc]
      simp only [decide_eq_true_eq]
    have FIN := Lib.hid fin
    clear fin
    have HWF := Lib.hid (Regs.put1_wf HO0.out.wf.r (x := ⟨IntKind.u16.wrap (m.r.g1.v - 1), false⟩) ⟨wrap16_lo _, wrap16_hi _⟩)
    by_cases c0 : IntKind.u16.wrap (m.r.g1.v - 1) = 0
    · have tc : (IntKind.u16.wrap (m.r.g1.v - 1) == 0) = true := by simp [c0]
      have td : (IntKind.u16.wrap (m.r.g1.v - 1) != 0) = false := by simp [c0]
      have C0 := Lib.hid c0
      clear c0
      go_wp2_with (first | (go_at_call 39; refine (put_any _ _ ⟨IntKind.u16.wrap (m.r.g1.v - 1), false⟩ _).mono ?_; rintro e w3 ⟨rfl, hb⟩; have HO3 := Lib.hid (HO2.out.below hb); have HA3 := Lib.hid (HA2.out.below hb); clear sc sf sr ss sl; clear hb; have sc := HO3.out.sees.c; have sf := HO3.out.sees.f; have sr := HO3.out.sees.r; have ss := HO3.out.sees.s; have sl := HO3.out.sees.l) | (go_at_call 44; refine (flag_any (m.r.put 1 ⟨IntKind.u16.wrap (m.r.g1.v - 1), false⟩) _ _).mono ?_; rw [HZ.out]; rintro e w4 ⟨rfl, hb⟩; have HO4 := Lib.hid ((HO3.out.putR _ HWF.out).below hb); have HA4 := Lib.hid ((HA3.out.putR _).below hb); clear sc sf sr ss sl; clear hb; have sc := HO4.out.sees.c; have sf := HO4.out.sees.f; have sr := HO4.out.sees.r; have ss := HO4.out.sees.s; have sl := HO4.out.sees.l))
      go_end0
      rw [FIN.out false (by simp [C0.out])]
      exact ⟨rfl, After.mk HO4.out HA4.out⟩
    · have tc : (IntKind.u16.wrap (m.r.g1.v - 1) == 0) = false := by simp [c0]
      have td : (IntKind.u16.wrap (m.r.g1.v - 1) != 0) = true := by simp [c0]
      have C0 := Lib.hid c0
      clear c0
      by_cases n76 : name = 76
      · subst n76
        go_wp2_with (first | (go_at_call 39; refine (put_any _ _ ⟨IntKind.u16.wrap (m.r.g1.v - 1), false⟩ _).mono ?_; rintro e w3 ⟨rfl, hb⟩; have HO3 := Lib.hid (HO2.out.below hb); have HA3 := Lib.hid (HA2.out.below hb); clear sc sf sr ss sl; clear hb; have sc := HO3.out.sees.c; have sf := HO3.out.sees.f; have sr := HO3.out.sees.r; have ss := HO3.out.sees.s; have sl := HO3.out.sees.l) | (go_at_call 44; refine (flag_any (m.r.put 1 ⟨IntKind.u16.wrap (m.r.g1.v - 1), false⟩) _ _).mono ?_; rw [HZ.out]; rintro e w4 ⟨rfl, hb⟩; have HO4 := Lib.hid ((HO3.out.putR _ HWF.out).below hb); have HA4 := Lib.hid ((HA3.out.putR _).below hb); clear sc sf sr ss sl; clear hb; have sc := HO4.out.sees.c; have sf := HO4.out.sees.f; have sr := HO4.out.sees.r; have ss := HO4.out.sees.s; have sl := HO4.out.sees.l) | (go_at_call 29; refine (on_any _ _ _ _ HO4.out _).mono ?_; rintro e w5 ⟨rfl, lv5, h1, f1, k1⟩; have HO5 := Lib.hid h1; have HA5 := Lib.hid (HA4.out.trans ⟨f1, k1⟩); clear sc sf sr ss sl; clear h1 f1 k1; have sc := HO5.out.sees.c; have sf := HO5.out.sees.f; have sr := HO5.out.sees.r; have ss := HO5.out.sees.s; have sl := HO5.out.sees.l))
        go_end0
        rw [FIN.out true (by simp [C0.out])]
        exact ⟨rfl, After.mk HO5.out HA5.out⟩
      · have t76 : (name == 76) = false := by simp [n76]
        have N76 := Lib.hid n76
        clear n76
        by_cases n75 : name = 75
        · subst n75
          cases zb with
          | true =>
            go_wp2_with (first | (go_at_call 39; refine (put_any _ _ ⟨IntKind.u16.wrap (m.r.g1.v - 1), false⟩ _).mono ?_; rintro e w3 ⟨rfl, hb⟩; have HO3 := Lib.hid (HO2.out.below hb); have HA3 := Lib.hid (HA2.out.below hb); clear sc sf sr ss sl; clear hb; have sc := HO3.out.sees.c; have sf := HO3.out.sees.f; have sr := HO3.out.sees.r; have ss := HO3.out.sees.s; have sl := HO3.out.sees.l) | (go_at_call 44; refine (flag_any (m.r.put 1 ⟨IntKind.u16.wrap (m.r.g1.v - 1), false⟩) _ _).mono ?_; rw [HZ.out]; rintro e w4 ⟨rfl, hb⟩; have HO4 := Lib.hid ((HO3.out.putR _ HWF.out).below hb); have HA4 := Lib.hid ((HA3.out.putR _).below hb); clear sc sf sr ss sl; clear hb; have sc := HO4.out.sees.c; have sf := HO4.out.sees.f; have sr := HO4.out.sees.r; have ss := HO4.out.sees.s; have sl := HO4.out.sees.l) | (go_at_call 29; refine (on_any _ _ _ _ HO4.out _).mono ?_; rintro e w5 ⟨rfl, lv5, h1, f1, k1⟩; have HO5 := Lib.hid h1; have HA5 := Lib.hid (HA4.out.trans ⟨f1, k1⟩); clear sc sf sr ss sl; clear h1 f1 k1; have sc := HO5.out.sees.c; have sf := HO5.out.sees.f; have sr := HO5.out.sees.r; have ss := HO5.out.sees.s; have sl := HO5.out.sees.l))
            go_end0
            rw [FIN.out true (by simp [C0.out])]
            exact ⟨rfl, After.mk HO5.out HA5.out⟩
          | false =>
            go_wp2_with (first | (go_at_call 39; refine (put_any _ _ ⟨IntKind.u16.wrap (m.r.g1.v - 1), false⟩ _).mono ?_; rintro e w3 ⟨rfl, hb⟩; have HO3 := Lib.hid (HO2.out.below hb); have HA3 := Lib.hid (HA2.out.below hb); clear sc sf sr ss sl; clear hb; have sc := HO3.out.sees.c; have sf := HO3.out.sees.f; have sr := HO3.out.sees.r; have ss := HO3.out.sees.s; have sl := HO3.out.sees.l) | (go_at_call 44; refine (flag_any (m.r.put 1 ⟨IntKind.u16.wrap (m.r.g1.v - 1), false⟩) _ _).mono ?_; rw [HZ.out]; rintro e w4 ⟨rfl, hb⟩; have HO4 := Lib.hid ((HO3.out.putR _ HWF.out).below hb); have HA4 := Lib.hid ((HA3.out.putR _).below hb); clear sc sf sr ss sl; clear hb; have sc := HO4.out.sees.c; have sf := HO4.out.sees.f; have sr := HO4.out.sees.r; have ss := HO4.out.sees.s; have sl := HO4.out.sees.l) | (go_at_call 29; refine (on_any _ _ _ _ HO4.out _).mono ?_; rintro e w5 ⟨rfl, lv5, h1, f1, k1⟩; have HO5 := Lib.hid h1; have HA5 := Lib.hid (HA4.out.trans ⟨f1, k1⟩); clear sc sf sr ss sl; clear h1 f1 k1; have sc := HO5.out.sees.c; have sf := HO5.out.sees.f; have sr := HO5.out.sees.r; have ss := HO5.out.sees.s; have sl := HO5.out.sees.l))
            go_end0
            rw [FIN.out false (by simp)]
            exact ⟨rfl, After.mk HO4.out HA4.out⟩
        · have t75 : (name == 75) = false := by simp [n75]
          have N75 := Lib.hid n75
          clear n75
          cases zb with
          | true =>
            go_wp2_with (first | (go_at_call 39; refine (put_any _ _ ⟨IntKind.u16.wrap (m.r.g1.v - 1), false⟩ _).mono ?_; rintro e w3 ⟨rfl, hb⟩; have HO3 := Lib.hid (HO2.out.below hb); have HA3 := Lib.hid (HA2.out.below hb); clear sc sf sr ss sl; clear hb; have sc := HO3.out.sees.c; have sf := HO3.out.sees.f; have sr := HO3.out.sees.r; have ss := HO3.out.sees.s; have sl := HO3.out.sees.l) | (go_at_call 44; refine (flag_any (m.r.put 1 ⟨IntKind.u16.wrap (m.r.g1.v - 1), false⟩) _ _).mono ?_; rw [HZ.out]; rintro e w4 ⟨rfl, hb⟩; have HO4 := Lib.hid ((HO3.out.putR _ HWF.out).below hb); have HA4 := Lib.hid ((HA3.out.putR _).below hb); clear sc sf sr ss sl; clear hb; have sc := HO4.out.sees.c; have sf := HO4.out.sees.f; have sr := HO4.out.sees.r; have ss := HO4.out.sees.s; have sl := HO4.out.sees.l) | (go_at_call 29; refine (on_any _ _ _ _ HO4.out _).mono ?_; rintro e w5 ⟨rfl, lv5, h1, f1, k1⟩; have HO5 := Lib.hid h1; have HA5 := Lib.hid (HA4.out.trans ⟨f1, k1⟩); clear sc sf sr ss sl; clear h1 f1 k1; have sc := HO5.out.sees.c; have sf := HO5.out.sees.f; have sr := HO5.out.sees.r; have ss := HO5.out.sees.s; have sl := HO5.out.sees.l))
            go_end0
            rw [FIN.out false (by simp [N75.out, N76.out])]
            exact ⟨rfl, After.mk HO4.out HA4.out⟩
          | false =>
            go_wp2_with (first | (go_at_call 39; refine (put_any _ _ ⟨IntKind.u16.wrap (m.r.g1.v - 1), false⟩ _).mono ?_; rintro e w3 ⟨rfl, hb⟩; have HO3 := Lib.hid (HO2.out.below hb); have HA3 := Lib.hid (HA2.out.below hb); clear sc sf sr ss sl; clear hb; have sc := HO3.out.sees.c; have sf := HO3.out.sees.f; have sr := HO3.out.sees.r; have ss := HO3.out.sees.s; have sl := HO3.out.sees.l) | (go_at_call 44; refine (flag_any (m.r.put 1 ⟨IntKind.u16.wrap (m.r.g1.v - 1), false⟩) _ _).mono ?_; rw [HZ.out]; rintro e w4 ⟨rfl, hb⟩; have HO4 := Lib.hid ((HO3.out.putR _ HWF.out).below hb); have HA4 := Lib.hid ((HA3.out.putR _).below hb); clear sc sf sr ss sl; clear hb; have sc := HO4.out.sees.c; have sf := HO4.out.sees.f; have sr := HO4.out.sees.r; have ss := HO4.out.sees.s; have sl := HO4.out.sees.l) | (go_at_call 29; refine (on_any _ _ _ _ HO4.out _).mono ?_; rintro e w5 ⟨rfl, lv5, h1, f1, k1⟩; have HO5 := Lib.hid h1; have HA5 := Lib.hid (HA4.out.trans ⟨f1, k1⟩); clear sc sf sr ss sl; clear h1 f1 k1; have sc := HO5.out.sees.c; have sf := HO5.out.sees.f; have sr := HO5.out.sees.r; have ss := HO5.out.sees.s; have sl := HO5.out.sees.l))
            go_end0
            rw [FIN.out true (by simp [C0.out, N75.out])]
            exact ⟨rfl, After.mk HO5.out HA5.out⟩
end Go.Proofs.YtcglkefaopgjeaaDoor
