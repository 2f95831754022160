/- The contracts of packages bits and mem. -/
import Derived.Test.YtcglkefaopgjeaaGreatDoorB1
import Derived.Deep.RegionHeld3
import Derived.Deep.QuietTactic
import Derived.BigQuiet
import Derived.Lib.Hide
namespace Go.Proofs.YtcglkefaopgjeaaGreatDoor
set_option linter.unusedSimpArgs false
set_option linter.unusedVariables false
open Go.RowKit

/-- 2^20 bytes as cells. -/
def ByteRow (f : Nat → Int) : Array Value := Array.ofFn (n := 1048576) fun i => .int .u8 (f i.val)
theorem ByteRow.get (f : Nat → Int) {j : Nat} (h : j < 1048576) : (ByteRow f)[j]? = some (.int .u8 (f j)) := by
  unfold ByteRow
  rw [Array.getElem?_ofFn, dif_pos h]
def upd (f : Nat → Int) (j : Nat) (v : Int) : Nat → Int := fun k => if k = j then v else f k
theorem ByteRow.set (f : Nat → Int) (j : Nat) (v : Int) : (ByteRow f).setIfInBounds j (.int .u8 v) = ByteRow (upd f j v) := by
  unfold ByteRow upd
  apply Array.ext
  · simp only [Array.size_setIfInBounds, Array.size_ofFn]
  · intro i h1 h2
    by_cases h : i = j
    · subst h; simp
    · have : ¬ j = i := fun e => h e.symm
      rw [Array.getElem_setIfInBounds_ne (by simpa using h2) this]
      simp [h]

attribute [irreducible] ByteRow

abbrev memCells (bb tb : Nat) : Array Value := #[.slice (some ⟨bb, 0, none⟩) 1048576 1048576, .slice (some ⟨tb, 0, none⟩) 1048576 1048576]
structure MemAt (w : World) (mb bb tb : Nat) (f t : Nat → Int) : Prop where
  r : Row w mb (memCells bb tb) 138
  b : Row w bb (ByteRow f) 5
  t : Row w tb (ByteRow t) 5
  ne1 : mb ≠ bb
  ne2 : mb ≠ tb
  ne3 : bb ≠ tb
  wf : ∀ k, 0 ≤ f k ∧ f k ≤ 255

/-- Where a segment's offset is. -/
def lin (seg off : Int) : Nat := ((seg * 16 + off) % 1048576).toNat
theorem ret_int {k : IntKind} {a b : Int} (h : a = b) : Ending.returned (.int k a) = .returned (.int k b) := by rw [h]
theorem lin_bits (seg off : Int) (h1 : 0 ≤ seg) (h2 : seg ≤ 65535) (h3 : 0 ≤ off) (h4 : off ≤ 65535) : bits .and .u32 (seg * 16 + off) 1048575 = (lin seg off : Int) := by
  rw [u32_and _ _ (by omega) (by omega) (by omega) (by omega)]
  show (((seg * 16 + off).toNat &&& 1048575 : Nat) : Int) = _
  rw [nat_mask20]
  unfold lin
  omega
theorem word_bits (x y : Int) (h1 : 0 ≤ x) (h2 : x ≤ 255) (h3 : 0 ≤ y) (h4 : y ≤ 255) : bits .or .u16 x (y * 256) = x + 256 * y := by
  rw [u16_or _ _ (by omega) (by omega) (by omega) (by omega), Nat.or_comm]
  rw [nat_join 8 (y * 256).toNat x.toNat (by omega) (by omega)]
  omega
theorem lin_lt (seg off : Int) : lin seg off < 1048576 := by unfold lin; omega

set_option maxHeartbeats 400000 in
theorem linear_any (seg off : Int) (w : World) (h1 : 0 ≤ seg) (h2 : seg ≤ 65535) (h3 : 0 ≤ off) (h4 : off ≤ 65535) :
    Calls Tryz.prog 84 #[.int .u16 seg, .int .u16 off] w fun e w' => e = .returned (.int .u32 (lin seg off)) ∧ w = w' := by
  go_enter Tryz.func84, Tryz.ntmps84
  go_wp2
  go_ret
  exact ⟨ret_int (lin_bits seg off h1 h2 h3 h4), rfl⟩

set_option maxHeartbeats 400000 in
theorem low_any (x : Int) (w : World) (h1 : 0 ≤ x) (h2 : x ≤ 65535) :
    Calls Tryz.prog 85 #[.int .u16 x] w fun e w' => e = .returned (.int .u8 (x % 256)) ∧ w = w' := by
  go_enter Tryz.func85, Tryz.ntmps85
  go_wp2
  go_ret
  exact ⟨rfl, rfl⟩
set_option maxHeartbeats 400000 in
theorem high_any (x : Int) (w : World) (h1 : 0 ≤ x) (h2 : x ≤ 65535) :
    Calls Tryz.prog 86 #[.int .u16 x] w fun e w' => e = .returned (.int .u8 (x / 256)) ∧ w = w' := by
  go_enter Tryz.func86, Tryz.ntmps86
  go_wp2
  go_ret
  exact ⟨rfl, rfl⟩
set_option maxHeartbeats 400000 in
theorem bword_any (x y : Int) (w : World) (h1 : 0 ≤ x) (h2 : x ≤ 255) (h3 : 0 ≤ y) (h4 : y ≤ 255) :
    Calls Tryz.prog 105 #[.int .u8 x, .int .u8 y] w fun e w' => e = .returned (.int .u16 (x + 256 * y)) ∧ w = w' := by
  go_enter Tryz.func105, Tryz.ntmps105
  go_wp2
  go_ret
  exact ⟨ret_int (word_bits x y h1 h2 h3 h4), rfl⟩

set_option maxHeartbeats 400000 in
theorem memOk_any (mb bb tb : Nat) (f t : Nat → Int) (w : World) (hm : MemAt w mb bb tb f t) :
    Calls Tryz.prog 83 #[.pointer (some ⟨mb, 0, none⟩)] w fun e w' => e = .returned (.bool true) ∧ w = w' := by
  have c0 := hm.r.cell 0
  simp only [memCells, List.getElem?_toArray, List.getElem?_cons_zero] at c0
  clear hm
  go_enter Tryz.func83, Tryz.ntmps83
  go_wp2
  go_ret
  exact ⟨rfl, rfl⟩
theorem MemAt.c0 {w : World} {mb bb tb : Nat} {f t : Nat → Int} (hm : MemAt w mb bb tb f t) : w.cell? ⟨mb, 0, none⟩ = some (.slice (some ⟨bb, 0, none⟩) 1048576 1048576) := hm.r.cell 0
theorem MemAt.c1 {w : World} {mb bb tb : Nat} {f t : Nat → Int} (hm : MemAt w mb bb tb f t) : w.cell? ⟨mb, 1, none⟩ = some (.slice (some ⟨tb, 0, none⟩) 1048576 1048576) := hm.r.cell 1
theorem MemAt.cb {w : World} {mb bb tb : Nat} {f t : Nat → Int} (hm : MemAt w mb bb tb f t) (a : Nat) (ha : a < 1048576) : w.cell? ⟨bb, a, none⟩ = some (.int .u8 (f a)) := by
  rw [hm.b.cell, ByteRow.get f ha]
theorem MemAt.ct {w : World} {mb bb tb : Nat} {f t : Nat → Int} (hm : MemAt w mb bb tb f t) (a : Nat) (ha : a < 1048576) : w.cell? ⟨tb, a, none⟩ = some (.int .u8 (t a)) := by
  rw [hm.t.cell, ByteRow.get t ha]
theorem mod_lt (a : Nat) : a % 1048576 < 1048576 := Nat.mod_lt _ (by decide)

/-- Of what was there, only blocks of 'own' may have turned. -/
structure Fr (own : Nat → Prop) (w w' : World) : Prop where
  os : w'.os = w.os
  tape : w'.tape = w.tape
  output : w'.output = w.output
  size : w.heap.size ≤ w'.heap.size
  block : ∀ k, k < w.heap.size → ¬ own k → w'.heap[k]? = w.heap[k]?
theorem Fr.refl (own : Nat → Prop) (w : World) : Fr own w w := ⟨rfl, rfl, rfl, Nat.le_refl _, fun _ _ _ => rfl⟩
theorem Fr.trans {own : Nat → Prop} {a b c : World} (h : Fr own a b) (k : Fr own b c) : Fr own a c :=
  ⟨k.os.trans h.os, k.tape.trans h.tape, k.output.trans h.output, Nat.le_trans h.size k.size, fun i hi ho => (k.block i (Nat.lt_of_lt_of_le hi h.size) ho).trans (h.block i hi ho)⟩
theorem Fr.mono {own own' : Nat → Prop} {w w' : World} (h : Fr own w w') (hm : ∀ k, own k → own' k) : Fr own' w w' :=
  ⟨h.os, h.tape, h.output, h.size, fun k hk ho => h.block k hk (fun e => ho (hm k e))⟩
theorem Fr.of_below {own : Nat → Prop} {w w' : World} (h : Below w.heap.size w w') : Fr own w w' := ⟨h.os, h.tape, h.output, h.size, fun k hk _ => h.block k hk⟩
theorem Fr.drew {own : Nat → Prop} {a w : World} (h : Fr own a w) : Fr own a w.drew := ⟨h.os, h.tape, h.output, h.size, h.block⟩
theorem Fr.drewN {own : Nat → Prop} {a w : World} {n : Nat} (h : Fr own a w) : Fr own a (w.drewN n) := ⟨h.os, h.tape, h.output, h.size, h.block⟩
theorem Fr.alloc {own : Nat → Prop} {a w : World} (h : Fr own a w) (o : Obj) : Fr own a (w.alloc o) :=
  h.trans ⟨rfl, rfl, rfl, by simp, fun k hk _ => Below.heap_alloc _ _ _ hk⟩
theorem Fr.setCell {own : Nat → Prop} {a w : World} (h : Fr own a w) {p : Addr} (hp : own p.block) (u : Value) : Fr own a (w.setCell p u) :=
  h.trans ⟨rfl, rfl, rfl, by simp, fun k _ ho => Below.heap_setCell _ _ _ _ (fun e => ho (e ▸ hp))⟩
theorem Fr.setRow {own : Nat → Prop} {a w : World} (h : Fr own a w) {g : Nat} (hp : own g) (cs : Array Value) : Fr own a (w.setRow g cs) :=
  h.trans ⟨rfl, rfl, rfl, by simp, fun k _ ho => setRow_other w g k cs (fun e => ho (e ▸ hp))⟩
theorem Fr.row {own : Nat → Prop} {w w' : World} (h : Fr own w w') {g : Nat} {cs : Array Value} {t : TypeId} (hr : Row w g cs t) (ho : ¬ own g) : Row w' g cs t := (h.block g hr.lt ho).trans hr

theorem MemAt.below {w w' : World} {mb bb tb : Nat} {f t : Nat → Int} (hm : MemAt w mb bb tb f t) (hb : Below w.heap.size w w') : MemAt w' mb bb tb f t :=
  ⟨Below.row hb hm.r hm.r.lt, Below.row hb hm.b hm.b.lt, Below.row hb hm.t hm.t.lt, hm.ne1, hm.ne2, hm.ne3, hm.wf⟩
theorem MemAt.alloc {w : World} {mb bb tb : Nat} {f t : Nat → Int} (hm : MemAt w mb bb tb f t) (o : Obj) : MemAt (w.alloc o) mb bb tb f t :=
  ⟨hm.r.alloc _, hm.b.alloc _, hm.t.alloc _, hm.ne1, hm.ne2, hm.ne3, hm.wf⟩
theorem MemAt.drew {w : World} {mb bb tb : Nat} {f t : Nat → Int} (hm : MemAt w mb bb tb f t) : MemAt w.drew mb bb tb f t :=
  ⟨hm.r.drew, hm.b.drew, hm.t.drew, hm.ne1, hm.ne2, hm.ne3, hm.wf⟩
theorem MemAt.setb {w : World} {mb bb tb : Nat} {f t : Nat → Int} (hm : MemAt w mb bb tb f t) (a : Nat) (v : Int) (h0 : 0 ≤ v) (h1 : v ≤ 255) : MemAt (w.setCell ⟨bb, a, none⟩ (.int .u8 v)) mb bb tb (upd f a v) t :=
  ⟨hm.r.setCell_other _ _ hm.ne1, ByteRow.set f a v ▸ hm.b.setCell a _, hm.t.setCell_other _ _ (Ne.symm hm.ne3), hm.ne1, hm.ne2, hm.ne3, fun k => by unfold upd; split; exact ⟨h0, h1⟩; exact hm.wf k⟩
theorem MemAt.sett {w : World} {mb bb tb : Nat} {f t : Nat → Int} (hm : MemAt w mb bb tb f t) (a : Nat) (v : Int) : MemAt (w.setCell ⟨tb, a, none⟩ (.int .u8 v)) mb bb tb f (upd t a v) :=
  ⟨hm.r.setCell_other _ _ hm.ne2, hm.b.setCell_other _ _ hm.ne3, ByteRow.set t a v ▸ hm.t.setCell a _, hm.ne1, hm.ne2, hm.ne3, hm.wf⟩

set_option maxHeartbeats 400000 in
theorem memAt_any (mb bb tb : Nat) (f t : Nat → Int) (w : World) (hm : MemAt w mb bb tb f t) (a : Nat) :
    Calls Tryz.prog 90 #[.pointer (some ⟨mb, 0, none⟩), .int .u32 a] w fun e w' => e = .returned (.int .u8 (f (a % 1048576))) ∧ w = w' := by
  have c0 := hm.c0
  have cb := hm.cb (a % 1048576) (mod_lt a)
  have H := Lib.hid hm
  clear hm
  go_enter Tryz.func90, Tryz.ntmps90
  go_wp2_with (go_at_call 83; refine (memOk_any _ _ _ _ _ _ H.out).mono ?_; rintro e w' ⟨rfl, rfl⟩)
  go_ret
  exact ⟨rfl, rfl⟩
set_option maxHeartbeats 400000 in
theorem memPlain_any (mb bb tb : Nat) (f t : Nat → Int) (w : World) (hm : MemAt w mb bb tb f t) (a : Nat) :
    Calls Tryz.prog 89 #[.pointer (some ⟨mb, 0, none⟩), .int .u32 a] w fun e w' => e = .returned (.bool (t (a % 1048576) == 0)) ∧ w = w' := by
  have c1 := hm.c1
  have ct := hm.ct (a % 1048576) (mod_lt a)
  have H := Lib.hid hm
  clear hm
  go_enter Tryz.func89, Tryz.ntmps89
  go_wp2_with (go_at_call 83; refine (memOk_any _ _ _ _ _ _ H.out).mono ?_; rintro e w' ⟨rfl, rfl⟩)
  go_ret
  exact ⟨rfl, rfl⟩

abbrev ownM (bb tb : Nat) : Nat → Prop := fun k => k = bb ∨ k = tb
set_option maxHeartbeats 800000 in
theorem memSet_any (mb bb tb : Nat) (f t : Nat → Int) (w : World) (hm : MemAt w mb bb tb f t) (a : Nat) (v : Int) (h0 : 0 ≤ v) (h1 : v ≤ 255) :
    Calls Tryz.prog 39 #[.pointer (some ⟨mb, 0, none⟩), .int .u32 a, .int .u8 v] w fun e w' => e = .returned (.tuple #[]) ∧ MemAt w' mb bb tb (upd f (a % 1048576) v) (upd t (a % 1048576) 0) ∧ Fr (ownM bb tb) w w' := by
  have c0 := hm.c0
  have c1 := hm.c1
  have cb := hm.cb (a % 1048576) (mod_lt a)
  have ct := hm.ct (a % 1048576) (mod_lt a)
  have fb := hm.b.frozen (a % 1048576)
  have ft := hm.t.frozen (a % 1048576)
  have n1 := hm.ne3
  have n2 := Ne.symm hm.ne3
  have H := Lib.hid hm
  clear hm
  go_enter Tryz.func39, Tryz.ntmps39
  go_wp2_with (go_at_call 83; refine (memOk_any _ _ _ _ _ _ H.out).mono ?_; rintro e w' ⟨rfl, rfl⟩)
  go_region
  go_wp2
  go_end0
  exact ⟨rfl, (((H.out.setb _ _ h0 h1).sett _ _).drew), (((Fr.refl _ _).setCell (Or.inl rfl) _).setCell (Or.inr rfl) _).drew⟩

set_option maxHeartbeats 400000 in
theorem memByte_any (mb bb tb : Nat) (f t : Nat → Int) (w : World) (hm : MemAt w mb bb tb f t) (seg off : Int) (h1 : 0 ≤ seg) (h2 : seg ≤ 65535) (h3 : 0 ≤ off) (h4 : off ≤ 65535) :
    Calls Tryz.prog 57 #[.pointer (some ⟨mb, 0, none⟩), .int .u16 seg, .int .u16 off] w fun e w' => e = .returned (.tuple #[.int .u8 (f (lin seg off)), .bool (t (lin seg off) == 0)]) ∧ w = w' := by
  have H := Lib.hid hm
  clear hm
  have HL := Lib.hid (Nat.mod_eq_of_lt (lin_lt seg off))
  go_enter Tryz.func57, Tryz.ntmps57
  go_wp2_with (first | (go_at_call 84; refine (linear_any _ _ _ h1 h2 h3 h4).mono ?_; rintro e w' ⟨rfl, rfl⟩) | (go_at_call 90; refine (memAt_any _ _ _ _ _ _ H.out _).mono ?_; rw [HL.out]; rintro e w' ⟨rfl, rfl⟩) | (go_at_call 89; refine (memPlain_any _ _ _ _ _ _ H.out _).mono ?_; rw [HL.out]; rintro e w' ⟨rfl, rfl⟩))
  go_ret2
  exact ⟨rfl, rfl⟩

set_option maxHeartbeats 400000 in
theorem memSetByte_any (mb bb tb : Nat) (f t : Nat → Int) (w : World) (hm : MemAt w mb bb tb f t) (seg off : Int) (h1 : 0 ≤ seg) (h2 : seg ≤ 65535) (h3 : 0 ≤ off) (h4 : off ≤ 65535) (v : Int) (h5 : 0 ≤ v) (h6 : v ≤ 255) :
    Calls Tryz.prog 55 #[.pointer (some ⟨mb, 0, none⟩), .int .u16 seg, .int .u16 off, .int .u8 v] w fun e w' => e = .returned (.tuple #[]) ∧ MemAt w' mb bb tb (upd f (lin seg off) v) (upd t (lin seg off) 0) ∧ Fr (ownM bb tb) w w' := by
  have H := Lib.hid hm
  clear hm
  have HL := Lib.hid (Nat.mod_eq_of_lt (lin_lt seg off))
  go_enter Tryz.func55, Tryz.ntmps55
  go_wp2_with fail
  refine (linear_any _ _ _ h1 h2 h3 h4).mono ?_; rintro e w' ⟨rfl, rfl⟩; dsimp only
  go_wp2_with fail
  refine (memSet_any _ _ _ _ _ _ H.out _ _ h5 h6).mono ?_; rw [HL.out]; rintro e w' ⟨rfl, hq⟩; dsimp only
  go_wp2_with fail
  go_end0
  exact ⟨rfl, hq⟩

def mwordT (t : Nat → Int) (x y : Nat) : Bool := t x == 1 && t y == 2
def mwordC (t : Nat → Int) (x y : Nat) : Bool := mwordT t x y || (t x == 0 && t y == 0)
abbrev mwordV (f t : Nat → Int) (x y : Nat) : V := ⟨f x + 256 * f y, mwordT t x y⟩
/-- The offset behind another one. -/
abbrev succW (off : Int) : Int := IntKind.u16.wrap (off + 1)
theorem wrap16_lo (x : Int) : 0 ≤ IntKind.u16.wrap x := by rw [IntKind.wrap_u16]; omega
theorem wrap16_hi (x : Int) : IntKind.u16.wrap x ≤ 65535 := by rw [IntKind.wrap_u16]; omega

set_option maxRecDepth 100000 in
set_option maxHeartbeats 800000 in
theorem memWord_any (mb bb tb : Nat) (f t : Nat → Int) (w : World) (hm : MemAt w mb bb tb f t) (seg off : Int) (h1 : 0 ≤ seg) (h2 : seg ≤ 65535) (h3 : 0 ≤ off) (h4 : off ≤ 65535) :
    Calls Tryz.prog 63 #[.pointer (some ⟨mb, 0, none⟩), .int .u16 seg, .int .u16 off] w fun e w' =>
      e = .returned (.tuple #[(mwordV f t (lin seg off) (lin seg (succW off))).val, .bool (mwordC t (lin seg off) (lin seg (succW off)))]) ∧ Below w.heap.size w w' := by
  have H := Lib.hid hm
  clear hm
  have HL := Lib.hid (Nat.mod_eq_of_lt (lin_lt seg off))
  have HM := Lib.hid (Nat.mod_eq_of_lt (lin_lt seg (succW off)))
  go_enter Tryz.func63, Tryz.ntmps63
  go_wp2_with fail
  refine (linear_any _ _ _ h1 h2 h3 h4).mono ?_; rintro e w' ⟨rfl, rfl⟩; dsimp only
  go_wp2_with fail
  refine (linear_any _ _ _ h1 h2 (wrap16_lo _) (wrap16_hi _)).mono ?_; rintro e w' ⟨rfl, rfl⟩; dsimp only
  go_wp2_with fail
  refine (memAt_any _ _ _ _ _ _ (H.out.alloc _) _).mono ?_; rw [HL.out]; rintro e w' ⟨rfl, rfl⟩; dsimp only
  go_wp2_with fail
  refine (memAt_any _ _ _ _ _ _ (H.out.alloc _) _).mono ?_; rw [HM.out]; rintro e w' ⟨rfl, rfl⟩; dsimp only
  go_wp2_with fail
  have wx := H.out.wf (lin seg off)
  have wy := H.out.wf (lin seg (succW off))
  refine (bword_any _ _ _ wx.1 wx.2 wy.1 wy.2).mono ?_; rintro e w' ⟨rfl, rfl⟩; dsimp only
  clear wx wy
  go_wp2_with fail
  refine (memOk_any _ _ _ _ _ _ ((H.out.alloc _).alloc _)).mono ?_; rintro e w' ⟨rfl, rfl⟩; dsimp only
  have c1 := H.out.c1
  have ct1 := H.out.ct _ (lin_lt seg off)
  have ct2 := H.out.ct _ (lin_lt seg (succW off))
  have l1 := H.out.r.lt
  have l2 := H.out.t.lt
  have b1 : ((lin seg off : Nat) : Int) < 1048576 := by have := lin_lt seg off; omega
  have b2 : ((lin seg (succW off) : Nat) : Int) < 1048576 := by have := lin_lt seg (succW off); omega
  have b3 : (0 : Int) ≤ ((lin seg off : Nat) : Int) := by omega
  have b4 : (0 : Int) ≤ ((lin seg (succW off) : Nat) : Int) := by omega
  go_wp2_with fail
  go_region
  clear c1 ct1 ct2 l1 l2 b1 b2 b3 b4
  go_wp2_with fail
  all_goals
    refine bodyPost_ret (v := .tuple #[(mwordV f t (lin seg off) (lin seg (succW off))).val, .bool (mwordC t (lin seg off) (lin seg (succW off)))]) (by simp_all [results, Tryz.results63, go_sem, mwordT, mwordC]) rfl ⟨rfl, ?_⟩
    (repeat (first | exact Below.refl _ _ | assumption | refine Below.setCell ?_ (by simp) _ | refine Below.alloc ?_ (by simp <;> omega) _ | refine Below.drew ?_ | refine Below.drewN ?_ | refine Below.setRow ?_ (by simp <;> omega) _))
end Go.Proofs.YtcglkefaopgjeaaGreatDoor
