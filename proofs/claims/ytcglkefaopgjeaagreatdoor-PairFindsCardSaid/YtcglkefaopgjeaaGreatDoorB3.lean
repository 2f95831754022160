/- The contracts of package mem, continued. -/
import Derived.Test.YtcglkefaopgjeaaGreatDoorB2
namespace Go.Proofs.YtcglkefaopgjeaaGreatDoor
set_option linter.unusedSimpArgs false
set_option linter.unusedVariables false
open Go.RowKit

def setF (f : Nat → Int) (x y : Nat) (v : Int) : Nat → Int := upd (upd f x (v % 256)) y (v / 256)
def setT (t : Nat → Int) (x y : Nat) (b : Bool) : Nat → Int := if b then upd (upd (upd (upd t x 0) y 0) x 1) y 2 else upd (upd t x 0) y 0

theorem lin_ne (seg off : Int) (h3 : 0 ≤ off) (h4 : off ≤ 65535) : lin seg off ≠ lin seg (succW off) := by
  unfold lin succW
  rw [IntKind.wrap_u16]
  omega

set_option maxRecDepth 100000 in
set_option maxHeartbeats 800000 in
theorem memSetWord_any (mb bb tb : Nat) (f t : Nat → Int) (w : World) (hm : MemAt w mb bb tb f t) (seg off : Int) (h1 : 0 ≤ seg) (h2 : seg ≤ 65535) (h3 : 0 ≤ off) (h4 : off ≤ 65535) (v : V) (h5 : 0 ≤ v.v) (h6 : v.v ≤ 65535) :
    Calls Tryz.prog 40 #[.pointer (some ⟨mb, 0, none⟩), .int .u16 seg, .int .u16 off, v.val] w fun e w' =>
      e = .returned (.tuple #[]) ∧ MemAt w' mb bb tb (setF f (lin seg off) (lin seg (succW off)) v.v) (setT t (lin seg off) (lin seg (succW off)) v.t) ∧ Fr (ownM bb tb) w w' := by
  have H := Lib.hid (hm.alloc (.cells #[.int .u16 v.v, .bool v.t] 24))
  have F0 : Fr (ownM bb tb) w (w.alloc (.cells #[.int .u16 v.v, .bool v.t] 24)) := (Fr.refl _ _).alloc _
  have R0 : Row (w.alloc (.cells #[.int .u16 v.v, .bool v.t] 24)) w.heap.size #[.int .u16 v.v, .bool v.t] 24 := Row.new _ _ _
  have n0 : ¬ ownM bb tb w.heap.size := by
    have := hm.b.lt
    have := hm.t.lt
    rintro (h | h) <;> omega
  clear hm
  have HL := Lib.hid (Nat.mod_eq_of_lt (lin_lt seg off))
  have HM := Lib.hid (Nat.mod_eq_of_lt (lin_lt seg (succW off)))
  go_enter Tryz.func40, Tryz.ntmps40
  have HR := Lib.hid R0
  have HF := Lib.hid F0
  have HN := Lib.hid n0
  clear R0 F0 n0
  go_wp2_with fail
  refine (memOk_any _ _ _ _ _ _ H.out).mono ?_; rintro e w' ⟨rfl, rfl⟩; dsimp only
  go_wp2_with fail
  refine (linear_any _ _ _ h1 h2 h3 h4).mono ?_; rintro e w' ⟨rfl, rfl⟩; dsimp only
  go_wp2_with fail
  refine (linear_any _ _ _ h1 h2 (wrap16_lo _) (wrap16_hi _)).mono ?_; rintro e w' ⟨rfl, rfl⟩; dsimp only
  go_wp2_with fail
  refine (low_any _ _ h5 h6).mono ?_; rintro e w' ⟨rfl, rfl⟩; dsimp only
  go_wp2_with fail
  refine (memSet_any _ _ _ _ _ _ H.out _ _ (by omega) (by omega)).mono ?_; rw [HL.out]; rintro e w1 ⟨rfl, hm1, hf1⟩; dsimp only
  have r1 := (hf1.row HR.out HN.out).cell
  have H1 := Lib.hid hm1
  have G1 := Lib.hid (HF.out.trans hf1)
  have HR1 := Lib.hid (hf1.row HR.out HN.out)
  clear hm1 hf1
  go_wp2_with fail
  refine (high_any _ _ h5 h6).mono ?_; rintro e w' ⟨rfl, rfl⟩; dsimp only
  go_wp2_with fail
  refine (memSet_any _ _ _ _ _ _ H1.out _ _ (by omega) (by omega)).mono ?_; rw [HM.out]; rintro e w2 ⟨rfl, hm2, hf2⟩; dsimp only
  clear r1
  have r2 := (hf2.row HR1.out HN.out).cell
  have H2 := Lib.hid hm2
  have G2 := Lib.hid (G1.out.trans hf2)
  clear hm2 hf2
  by_cases hv : v.t = true
  · go_wp2_with fail
    have c1 := H2.out.c1
    have ct1 := H2.out.ct _ (lin_lt seg off)
    have ct2 := H2.out.ct _ (lin_lt seg (succW off))
    have f1 := H2.out.t.frozen (lin seg off)
    have f2 := H2.out.t.frozen (lin seg (succW off))
    have b1 : ((lin seg off : Nat) : Int) < 1048576 := by have := lin_lt seg off; omega
    have b2 : ((lin seg (succW off) : Nat) : Int) < 1048576 := by have := lin_lt seg (succW off); omega
    have b3 : (0 : Int) ≤ ((lin seg off : Nat) : Int) := by omega
    have b4 : (0 : Int) ≤ ((lin seg (succW off) : Nat) : Int) := by omega
    have e1 := lin_ne seg off h3 h4
    have e2 := Ne.symm e1
    go_region
    clear c1 ct1 ct2 b1 b2 b3 b4 e1 e2 f1 f2 r2
    go_wp2_with fail
    go_end0
    refine ⟨rfl, ?_, ?_⟩
    · rw [setT, if_pos hv, setF]
      exact (((H2.out.sett _ _).sett _ _).drew)
    · exact (((G2.out.setCell (Or.inr rfl) _).setCell (Or.inr rfl) _).drew)
  · go_wp2_with fail
    go_end0
    refine ⟨rfl, ?_, G2.out⟩
    rw [setT, if_neg hv, setF]
    exact H2.out
end Go.Proofs.YtcglkefaopgjeaaGreatDoor
