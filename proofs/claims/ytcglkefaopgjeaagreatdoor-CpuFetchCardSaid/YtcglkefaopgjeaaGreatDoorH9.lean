/- Package scan: the source of bytes: next, word. -/
import Derived.Test.YtcglkefaopgjeaaGreatDoorH8
import Derived.Test.YtcglkefaopgjeaaGreatDoorD6
namespace Go.Proofs.YtcglkefaopgjeaaGreatDoor
set_option linter.unusedSimpArgs false
set_option linter.unusedVariables false
open Go.RowKit

/-- A source of twelve bytes, so many of which are taken. -/
structure Src (w : World) (g b : Nat) (bs : Nat → Int) (n : Nat) : Prop where
  row : Row w g #[.slice (some ⟨b, 0, none⟩) 12 12, .int .i64 n] 152
  by_ : ∀ k, k < 12 → w.cell? ⟨b, k, none⟩ = some (.int .u8 (bs k))
  ne : g ≠ b
  lt : b < w.heap.size
  wf : ∀ k, 0 ≤ bs k ∧ bs k ≤ 255
abbrev one (g : Nat) : Nat → Prop := fun k => k = g
theorem Src.fr {w w' : World} {g b : Nat} {bs : Nat → Int} {n : Nat} (h : Src w g b bs n) {own : Nat → Prop} (hf : Fr own w w') (h1 : ¬ own g) (h2 : ¬ own b) : Src w' g b bs n :=
  ⟨hf.row h.row h1, fun k hk => (World.cell?_of_block (a := ⟨b, k, none⟩) (hf.block b h.lt h2)).trans (h.by_ k hk), h.ne, Nat.lt_of_lt_of_le h.lt hf.size, h.wf⟩
theorem Src.below {w w' : World} {g b : Nat} {bs : Nat → Int} {n : Nat} (h : Src w g b bs n) (hb : Below w.heap.size w w') : Src w' g b bs n := h.fr (own := fun _ => False) (Fr.of_below hb) id id
theorem Src.drewN {w : World} {g b : Nat} {bs : Nat → Int} {n m : Nat} (h : Src w g b bs n) : Src (w.drewN m) g b bs n := h.below (Below.drewN (Below.refl _ _))
theorem Src.drew {w : World} {g b : Nat} {bs : Nat → Int} {n : Nat} (h : Src w g b bs n) : Src w.drew g b bs n := h.below (Below.refl _ _).drew
theorem Src.step {w : World} {g b : Nat} {bs : Nat → Int} {n : Nat} (h : Src w g b bs n) (m : Nat) : Src (w.setCell ⟨g, 1, none⟩ (.int .i64 m)) g b bs m :=
  ⟨h.row.setCell 1 _, fun k hk => (World.cell?_of_block (a := ⟨b, k, none⟩) (Below.heap_setCell _ _ _ _ (Ne.symm h.ne))).trans (h.by_ k hk), h.ne, by simpa using h.lt, h.wf⟩

def SrcPost (w : World) (g b : Nat) (bs : Nat → Int) (n : Nat) (w' : World) : Prop := Src w' g b bs n ∧ Fr (one g) w w'

set_option maxRecDepth 100000 in
set_option maxHeartbeats 1600000 in
theorem next_byte (w : World) (g b : Nat) (bs : Nat → Int) (n : Nat) (h : Src w g b bs n) (hn : n < 12) :
    Calls Tryz.prog 193 #[.pointer (some ⟨g, 0, none⟩)] w fun e w' => e = .returned (.int .u8 (bs n)) ∧ SrcPost w g b bs (n + 1) w' := by
  have c0 : w.cell? ⟨g, 0, none⟩ = some (.slice (some ⟨b, 0, none⟩) 12 12) := h.row.cell 0
  have c1 : w.cell? ⟨g, 1, none⟩ = some (.int .i64 n) := h.row.cell 1
  have cb := h.by_ n hn
  have f1 := h.row.frozen 1
  have i0 : (0 : Int) ≤ (n : Int) := by omega
  have i1 : (n : Int) < 12 := by omega
  have i2 : ¬ (12 : Int) ≤ (n : Int) := by omega
  have H := Lib.hid h
  have HN := Lib.hid hn
  clear h hn
  go_enter Tryz.func193, Tryz.ntmps193
  go_wp2_with fail
  go_quiet (fail)
  go_wp2_with fail
  go_quiet (fail)
  go_wp2_with fail
  go_ret
  refine ⟨rfl, ?_, by (repeat (first | exact Fr.refl _ _ | assumption | refine Fr.alloc ?_ _ | refine Fr.drew ?_ | refine Fr.drewN ?_ | refine Fr.setCell ?_ (by first | exact Or.inl rfl | exact Or.inr rfl | rfl | assumption) _ | refine Fr.setRow ?_ (by first | exact Or.inl rfl | exact Or.inr rfl | rfl | assumption) _))⟩
  refine Src.step (n := n) ?_ (n + 1)
  repeat (first | exact H.out | refine Src.drewN ?_ | refine Src.drew ?_)

theorem SrcPost.trans {w w1 w2 : World} {g b : Nat} {bs : Nat → Int} {n m : Nat} (h : SrcPost w g b bs n w1) (k : SrcPost w1 g b bs m w2) : SrcPost w g b bs m w2 := ⟨k.1, h.2.trans k.2⟩

set_option maxRecDepth 100000 in
set_option maxHeartbeats 1600000 in
theorem next_word (w : World) (g b : Nat) (bs : Nat → Int) (n : Nat) (h : Src w g b bs n) (hn : n + 1 < 12) :
    Calls Tryz.prog 195 #[.pointer (some ⟨g, 0, none⟩)] w fun e w' => e = .returned (.int .u16 (bs n + 256 * bs (n + 1))) ∧ SrcPost w g b bs (n + 2) w' := by
  have H := Lib.hid h
  have wf0 := h.wf n
  have wf1 := h.wf (n + 1)
  clear h
  go_enter Tryz.func195, Tryz.ntmps195
  go_wp2_with fail
  refine (next_byte _ _ _ _ _ H.out (by omega)).mono ?_
  rintro e w1 ⟨rfl, h1⟩; dsimp only
  have H1 := Lib.hid h1
  clear h1
  go_wp2_with fail
  refine (next_byte _ _ _ _ _ H1.out.1 (by omega)).mono ?_
  rintro e w2 ⟨rfl, h2⟩; dsimp only
  have H2 := Lib.hid (H1.out.trans h2)
  clear h2
  go_wp2_with fail
  refine (bword_any _ _ _ wf0.1 wf0.2 wf1.1 wf1.2).mono ?_; rintro e w' ⟨rfl, rfl⟩; dsimp only
  go_wp2_with fail
  go_ret
  exact ⟨rfl, H2.out⟩
end Go.Proofs.YtcglkefaopgjeaaGreatDoor
