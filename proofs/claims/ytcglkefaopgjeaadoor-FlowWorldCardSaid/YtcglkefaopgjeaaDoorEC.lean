/- flow.world of INT and INTO; flow.Do of them. -/
import Derived.Test.YtcglkefaopgjeaaDoorEB
import Derived.Test.YtcglkefaopgjeaaDoorE9
namespace Go.Proofs.YtcglkefaopgjeaaDoor
set_option linter.unusedSimpArgs false
set_option linter.unusedVariables false
open Go.RowKit

/-- INT, INTO: the world is called. -/
def Mach.world (m : Mach) (name a n : Int) : Mach := if name = 60 then (if a = 24 then m.call 3 else m.call n) else if andW m.r.f 2048 != 0 then m.call 4 else m

set_option maxRecDepth 100000 in
set_option maxHeartbeats 1600000 in
theorem world_any (w : World) (C : Phys) (lv : Value) (m : Mach) (h : Own w C lv m) (r : IRow) (n : Int) (hn0 : 0 ≤ n) (hn1 : n ≤ 255) (hrs : ∀ j, 0 ≤ nextV m.rs j ∧ nextV m.rs j ≤ 65535) (hc : r.name = 60 ∨ r.name = 61) :
    Calls Tryd.prog 27 #[.pointer (some ⟨C.b, 0, none⟩), r.val, .int .u8 n] w fun e w' => e = .returned (.tuple #[]) ∧ After C lv w (m.world r.name r.a n) w' := by
  obtain ⟨name, ra, rb, rm⟩ := r
  have HRS := Lib.hid hrs
  clear hrs
  have HX0 := Lib.hid (Box.new h #[.int .i64 name, .int .i64 ra, .int .i64 rb, .bool rm] 43)
  have HO0 := Lib.hid h; have HA0 := Lib.hid (Acc.refl C lv w); have sc := HO0.out.sees.c; have sf := HO0.out.sees.f; have sr := HO0.out.sees.r; have ss := HO0.out.sees.s; have sl := HO0.out.sees.l; clear h
  dsimp only at hc
  rcases hc with rfl | rfl
  · by_cases ha : ra = 24
    · have t : (ra == 24) = true := by simp [ha]
      have HE := Lib.hid ha
      clear ha
      go_enter Tryd.func27, Tryd.ntmps27
      go_wp2_with fail
      refine (call_any _ _ _ _ (HO0.out.alloc _) 3 (by decide) (by decide) HRS.out).mono ?_
      rintro e w1 ⟨rfl, lv1, h1, f1, k1⟩; dsimp only
      have HO1 := Lib.hid h1
      have HA1 := Lib.hid ((HA0.out.alloc _).trans ⟨f1, k1⟩)
      clear sc sf sr ss sl; clear h1 f1 k1
      go_wp2_with fail
      go_end0
      rw [Mach.world, if_pos rfl, if_pos HE.out]
      exact ⟨rfl, After.mk HO1.out HA1.out⟩
    · have t : (ra == 24) = false := by simp [ha]
      have HE := Lib.hid ha
      clear ha
      go_enter Tryd.func27, Tryd.ntmps27
      go_wp2_with fail
      refine (call_any _ _ _ _ (HO0.out.alloc _) n hn0 hn1 HRS.out).mono ?_
      rintro e w1 ⟨rfl, lv1, h1, f1, k1⟩; dsimp only
      have HO1 := Lib.hid h1
      have HA1 := Lib.hid ((HA0.out.alloc _).trans ⟨f1, k1⟩)
      clear sc sf sr ss sl; clear h1 f1 k1
      go_wp2_with fail
      go_end0
      rw [Mach.world, if_pos rfl, if_neg HE.out]
      exact ⟨rfl, After.mk HO1.out HA1.out⟩
  · obtain ⟨ob, hob⟩ : ∃ ob, (andW m.r.f 2048 != 0) = ob := ⟨_, rfl⟩
    have HE := Lib.hid (show m.world 61 ra n = if ob then m.call 4 else m from by rw [Mach.world, if_neg (by decide), hob])
    have HOB := Lib.hid hob
    clear hob
    go_enter Tryd.func27, Tryd.ntmps27
    go_wp2_with fail
    refine (flag_any _ _ _).mono ?_
    rw [HOB.out]
    rintro e w1 ⟨rfl, hb⟩; dsimp only
    have HO1 := Lib.hid ((HO0.out.alloc _).below hb)
    have HA1 := Lib.hid ((HA0.out.alloc _).below hb)
    clear sc sf sr ss sl; clear hb
    cases ob with
    | false =>
      go_wp2_with fail
      go_end0
      rw [HE.out, if_neg (by decide)]
      exact ⟨rfl, After.mk HO1.out HA1.out⟩
    | true =>
      go_wp2_with fail
      refine (call_any _ _ _ _ HO1.out 4 (by decide) (by decide) HRS.out).mono ?_
      rintro e w2 ⟨rfl, lv2, h2, f2, k2⟩; dsimp only
      have HO2 := Lib.hid h2
      have HA2 := Lib.hid (HA1.out.trans ⟨f2, k2⟩)
      clear h2 f2 k2
      go_wp2_with fail
      go_end0
      rw [HE.out, if_pos trivial]
      exact ⟨rfl, After.mk HO2.out HA2.out⟩
end Go.Proofs.YtcglkefaopgjeaaDoor
