/- Parts of the proof, in one text: YtcglkefaopgjeaaGreatDoorB2 YtcglkefaopgjeaaGreatDoorB3 YtcglkefaopgjeaaGreatDoorB4 YtcglkefaopgjeaaGreatDoorE0. Each part's own remark says what it proves; conditions: those of each theorem. -/
import Derived.Test.YtcglkefaopgjeaaGreatDoorW0
import Derived.Deep.RegionHeld3
import Derived.Deep.QuietTactic
import Derived.BigQuiet
import Derived.Lib.Hide

/- The contracts of packages bits and mem. -/
namespace Go.Proofs.YtcglkefaopgjeaaGreatDoor
set_option linter.unusedSimpArgs false
set_option linter.unusedVariables false
open Go.RowKit

/-- 2^20 bytes as cells. -/
def ByteRow (f : Nat → Int) : Array Value := Array.ofFn (n := 1048576) fun i => .int .u8 (f i.val)
theorem ByteRow.get (f : Nat → Int) {j : Nat} (h : j < 1048576) : (ByteRow f)[j]? = some (.int .u8 (f j)) := by
  unfold ByteRow
  rw [Array.getElem?_ofFn, dif_pos h]
def upd (f : Nat → Int) (j : Nat) (v : Int) : Nat → Int := fun k => if k = j then v else f k
theorem ByteRow.set (f : Nat → Int) (j : Nat) (v : Int) : (ByteRow f).setIfInBounds j (.int .u8 v) = ByteRow (upd f j v) := by
  unfold ByteRow upd
  apply Array.ext
  · simp only [Array.size_setIfInBounds, Array.size_ofFn]
  · intro i h1 h2
    by_cases h : i = j
    · subst h; simp
    · have : ¬ j = i := fun e => h e.symm
      rw [Array.getElem_setIfInBounds_ne (by simpa using h2) this]
      simp [h]

attribute [irreducible] ByteRow

abbrev memCells (bb tb : Nat) : Array Value := #[.slice (some ⟨bb, 0, none⟩) 1048576 1048576, .slice (some ⟨tb, 0, none⟩) 1048576 1048576]
structure MemAt (w : World) (mb bb tb : Nat) (f t : Nat → Int) : Prop where
  r : Row w mb (memCells bb tb) 138
  b : Row w bb (ByteRow f) 5
  t : Row w tb (ByteRow t) 5
  ne1 : mb ≠ bb
  ne2 : mb ≠ tb
  ne3 : bb ≠ tb
  wf : ∀ k, 0 ≤ f k ∧ f k ≤ 255

/-- Where a segment's offset is. -/
def lin (seg off : Int) : Nat := ((seg * 16 + off) % 1048576).toNat
theorem ret_int {k : IntKind} {a b : Int} (h : a = b) : Ending.returned (.int k a) = .returned (.int k b) := by rw [h]
theorem lin_bits (seg off : Int) (h1 : 0 ≤ seg) (h2 : seg ≤ 65535) (h3 : 0 ≤ off) (h4 : off ≤ 65535) : bits .and .u32 (seg * 16 + off) 1048575 = (lin seg off : Int) := by
  rw [u32_and _ _ (by omega) (by omega) (by omega) (by omega)]
  show (((seg * 16 + off).toNat &&& 1048575 : Nat) : Int) = _
  rw [nat_mask20]
  unfold lin
  omega
theorem word_bits (x y : Int) (h1 : 0 ≤ x) (h2 : x ≤ 255) (h3 : 0 ≤ y) (h4 : y ≤ 255) : bits .or .u16 x (y * 256) = x + 256 * y := by
  rw [u16_or _ _ (by omega) (by omega) (by omega) (by omega), Nat.or_comm]
  rw [nat_join 8 (y * 256).toNat x.toNat (by omega) (by omega)]
  omega
theorem lin_lt (seg off : Int) : lin seg off < 1048576 := by unfold lin; omega

set_option maxHeartbeats 400000 in
theorem linear_any (seg off : Int) (w : World) (h1 : 0 ≤ seg) (h2 : seg ≤ 65535) (h3 : 0 ≤ off) (h4 : off ≤ 65535) :
    Calls Tryz.prog 84 #[.int .u16 seg, .int .u16 off] w fun e w' => e = .returned (.int .u32 (lin seg off)) ∧ w = w' := by
  go_enter Tryz.func84, Tryz.ntmps84
  go_wp2
  go_ret
  exact ⟨ret_int (lin_bits seg off h1 h2 h3 h4), rfl⟩

set_option maxHeartbeats 400000 in
theorem low_any (x : Int) (w : World) (h1 : 0 ≤ x) (h2 : x ≤ 65535) :
    Calls Tryz.prog 85 #[.int .u16 x] w fun e w' => e = .returned (.int .u8 (x % 256)) ∧ w = w' := by
  go_enter Tryz.func85, Tryz.ntmps85
  go_wp2
  go_ret
  exact ⟨rfl, rfl⟩
set_option maxHeartbeats 400000 in
theorem high_any (x : Int) (w : World) (h1 : 0 ≤ x) (h2 : x ≤ 65535) :
    Calls Tryz.prog 86 #[.int .u16 x] w fun e w' => e = .returned (.int .u8 (x / 256)) ∧ w = w' := by
  go_enter Tryz.func86, Tryz.ntmps86
  go_wp2
  go_ret
  exact ⟨rfl, rfl⟩
set_option maxHeartbeats 400000 in
theorem bword_any (x y : Int) (w : World) (h1 : 0 ≤ x) (h2 : x ≤ 255) (h3 : 0 ≤ y) (h4 : y ≤ 255) :
    Calls Tryz.prog 105 #[.int .u8 x, .int .u8 y] w fun e w' => e = .returned (.int .u16 (x + 256 * y)) ∧ w = w' := by
  go_enter Tryz.func105, Tryz.ntmps105
  go_wp2
  go_ret
  exact ⟨ret_int (word_bits x y h1 h2 h3 h4), rfl⟩

set_option maxHeartbeats 400000 in
theorem memOk_any (mb bb tb : Nat) (f t : Nat → Int) (w : World) (hm : MemAt w mb bb tb f t) :
    Calls Tryz.prog 83 #[.pointer (some ⟨mb, 0, none⟩)] w fun e w' => e = .returned (.bool true) ∧ w = w' := by
  have c0 := hm.r.cell 0
  simp only [memCells, List.getElem?_toArray, List.getElem?_cons_zero] at c0
  clear hm
  go_enter Tryz.func83, Tryz.ntmps83
  go_wp2
  go_ret
  exact ⟨rfl, rfl⟩
theorem MemAt.c0 {w : World} {mb bb tb : Nat} {f t : Nat → Int} (hm : MemAt w mb bb tb f t) : w.cell? ⟨mb, 0, none⟩ = some (.slice (some ⟨bb, 0, none⟩) 1048576 1048576) := hm.r.cell 0
theorem MemAt.c1 {w : World} {mb bb tb : Nat} {f t : Nat → Int} (hm : MemAt w mb bb tb f t) : w.cell? ⟨mb, 1, none⟩ = some (.slice (some ⟨tb, 0, none⟩) 1048576 1048576) := hm.r.cell 1
theorem MemAt.cb {w : World} {mb bb tb : Nat} {f t : Nat → Int} (hm : MemAt w mb bb tb f t) (a : Nat) (ha : a < 1048576) : w.cell? ⟨bb, a, none⟩ = some (.int .u8 (f a)) := by
  rw [hm.b.cell, ByteRow.get f ha]
theorem MemAt.ct {w : World} {mb bb tb : Nat} {f t : Nat → Int} (hm : MemAt w mb bb tb f t) (a : Nat) (ha : a < 1048576) : w.cell? ⟨tb, a, none⟩ = some (.int .u8 (t a)) := by
  rw [hm.t.cell, ByteRow.get t ha]
theorem mod_lt (a : Nat) : a % 1048576 < 1048576 := Nat.mod_lt _ (by decide)

/-- Of what was there, only blocks of 'own' may have turned. -/
structure Fr (own : Nat → Prop) (w w' : World) : Prop where
  os : w'.os = w.os
  tape : w'.tape = w.tape
  output : w'.output = w.output
  size : w.heap.size ≤ w'.heap.size
  block : ∀ k, k < w.heap.size → ¬ own k → w'.heap[k]? = w.heap[k]?
theorem Fr.refl (own : Nat → Prop) (w : World) : Fr own w w := ⟨rfl, rfl, rfl, Nat.le_refl _, fun _ _ _ => rfl⟩
theorem Fr.trans {own : Nat → Prop} {a b c : World} (h : Fr own a b) (k : Fr own b c) : Fr own a c :=
  ⟨k.os.trans h.os, k.tape.trans h.tape, k.output.trans h.output, Nat.le_trans h.size k.size, fun i hi ho => (k.block i (Nat.lt_of_lt_of_le hi h.size) ho).trans (h.block i hi ho)⟩
theorem Fr.mono {own own' : Nat → Prop} {w w' : World} (h : Fr own w w') (hm : ∀ k, own k → own' k) : Fr own' w w' :=
  ⟨h.os, h.tape, h.output, h.size, fun k hk ho => h.block k hk (fun e => ho (hm k e))⟩
theorem Fr.of_below {own : Nat → Prop} {w w' : World} (h : Below w.heap.size w w') : Fr own w w' := ⟨h.os, h.tape, h.output, h.size, fun k hk _ => h.block k hk⟩
theorem Fr.drew {own : Nat → Prop} {a w : World} (h : Fr own a w) : Fr own a w.drew := ⟨h.os, h.tape, h.output, h.size, h.block⟩
theorem Fr.drewN {own : Nat → Prop} {a w : World} {n : Nat} (h : Fr own a w) : Fr own a (w.drewN n) := ⟨h.os, h.tape, h.output, h.size, h.block⟩
theorem Fr.alloc {own : Nat → Prop} {a w : World} (h : Fr own a w) (o : Obj) : Fr own a (w.alloc o) :=
  h.trans ⟨rfl, rfl, rfl, by simp, fun k hk _ => Below.heap_alloc _ _ _ hk⟩
theorem Fr.setCell {own : Nat → Prop} {a w : World} (h : Fr own a w) {p : Addr} (hp : own p.block) (u : Value) : Fr own a (w.setCell p u) :=
  h.trans ⟨rfl, rfl, rfl, by simp, fun k _ ho => Below.heap_setCell _ _ _ _ (fun e => ho (e ▸ hp))⟩
theorem Fr.setRow {own : Nat → Prop} {a w : World} (h : Fr own a w) {g : Nat} (hp : own g) (cs : Array Value) : Fr own a (w.setRow g cs) :=
  h.trans ⟨rfl, rfl, rfl, by simp, fun k _ ho => setRow_other w g k cs (fun e => ho (e ▸ hp))⟩
theorem Fr.row {own : Nat → Prop} {w w' : World} (h : Fr own w w') {g : Nat} {cs : Array Value} {t : TypeId} (hr : Row w g cs t) (ho : ¬ own g) : Row w' g cs t := (h.block g hr.lt ho).trans hr

theorem MemAt.below {w w' : World} {mb bb tb : Nat} {f t : Nat → Int} (hm : MemAt w mb bb tb f t) (hb : Below w.heap.size w w') : MemAt w' mb bb tb f t :=
  ⟨Below.row hb hm.r hm.r.lt, Below.row hb hm.b hm.b.lt, Below.row hb hm.t hm.t.lt, hm.ne1, hm.ne2, hm.ne3, hm.wf⟩
theorem MemAt.alloc {w : World} {mb bb tb : Nat} {f t : Nat → Int} (hm : MemAt w mb bb tb f t) (o : Obj) : MemAt (w.alloc o) mb bb tb f t :=
  ⟨hm.r.alloc _, hm.b.alloc _, hm.t.alloc _, hm.ne1, hm.ne2, hm.ne3, hm.wf⟩
theorem MemAt.drew {w : World} {mb bb tb : Nat} {f t : Nat → Int} (hm : MemAt w mb bb tb f t) : MemAt w.drew mb bb tb f t :=
  ⟨hm.r.drew, hm.b.drew, hm.t.drew, hm.ne1, hm.ne2, hm.ne3, hm.wf⟩
theorem MemAt.setb {w : World} {mb bb tb : Nat} {f t : Nat → Int} (hm : MemAt w mb bb tb f t) (a : Nat) (v : Int) (h0 : 0 ≤ v) (h1 : v ≤ 255) : MemAt (w.setCell ⟨bb, a, none⟩ (.int .u8 v)) mb bb tb (upd f a v) t :=
  ⟨hm.r.setCell_other _ _ hm.ne1, ByteRow.set f a v ▸ hm.b.setCell a _, hm.t.setCell_other _ _ (Ne.symm hm.ne3), hm.ne1, hm.ne2, hm.ne3, fun k => by unfold upd; split; exact ⟨h0, h1⟩; exact hm.wf k⟩
theorem MemAt.sett {w : World} {mb bb tb : Nat} {f t : Nat → Int} (hm : MemAt w mb bb tb f t) (a : Nat) (v : Int) : MemAt (w.setCell ⟨tb, a, none⟩ (.int .u8 v)) mb bb tb f (upd t a v) :=
  ⟨hm.r.setCell_other _ _ hm.ne2, hm.b.setCell_other _ _ hm.ne3, ByteRow.set t a v ▸ hm.t.setCell a _, hm.ne1, hm.ne2, hm.ne3, hm.wf⟩

set_option maxHeartbeats 400000 in
theorem memAt_any (mb bb tb : Nat) (f t : Nat → Int) (w : World) (hm : MemAt w mb bb tb f t) (a : Nat) :
    Calls Tryz.prog 90 #[.pointer (some ⟨mb, 0, none⟩), .int .u32 a] w fun e w' => e = .returned (.int .u8 (f (a % 1048576))) ∧ w = w' := by
  have c0 := hm.c0
  have cb := hm.cb (a % 1048576) (mod_lt a)
  have H := Lib.hid hm
  clear hm
  go_enter Tryz.func90, Tryz.ntmps90
  go_wp2_with (go_at_call 83; refine (memOk_any _ _ _ _ _ _ H.out).mono ?_; rintro e w' ⟨rfl, rfl⟩)
  go_ret
  exact ⟨rfl, rfl⟩
set_option maxHeartbeats 400000 in
theorem memPlain_any (mb bb tb : Nat) (f t : Nat → Int) (w : World) (hm : MemAt w mb bb tb f t) (a : Nat) :
    Calls Tryz.prog 89 #[.pointer (some ⟨mb, 0, none⟩), .int .u32 a] w fun e w' => e = .returned (.bool (t (a % 1048576) == 0)) ∧ w = w' := by
  have c1 := hm.c1
  have ct := hm.ct (a % 1048576) (mod_lt a)
  have H := Lib.hid hm
  clear hm
  go_enter Tryz.func89, Tryz.ntmps89
  go_wp2_with (go_at_call 83; refine (memOk_any _ _ _ _ _ _ H.out).mono ?_; rintro e w' ⟨rfl, rfl⟩)
  go_ret
  exact ⟨rfl, rfl⟩

abbrev ownM (bb tb : Nat) : Nat → Prop := fun k => k = bb ∨ k = tb
set_option maxHeartbeats 800000 in
theorem memSet_any (mb bb tb : Nat) (f t : Nat → Int) (w : World) (hm : MemAt w mb bb tb f t) (a : Nat) (v : Int) (h0 : 0 ≤ v) (h1 : v ≤ 255) :
    Calls Tryz.prog 39 #[.pointer (some ⟨mb, 0, none⟩), .int .u32 a, .int .u8 v] w fun e w' => e = .returned (.tuple #[]) ∧ MemAt w' mb bb tb (upd f (a % 1048576) v) (upd t (a % 1048576) 0) ∧ Fr (ownM bb tb) w w' := by
  have c0 := hm.c0
  have c1 := hm.c1
  have cb := hm.cb (a % 1048576) (mod_lt a)
  have ct := hm.ct (a % 1048576) (mod_lt a)
  have fb := hm.b.frozen (a % 1048576)
  have ft := hm.t.frozen (a % 1048576)
  have n1 := hm.ne3
  have n2 := Ne.symm hm.ne3
  have H := Lib.hid hm
  clear hm
  go_enter Tryz.func39, Tryz.ntmps39
  go_wp2_with (go_at_call 83; refine (memOk_any _ _ _ _ _ _ H.out).mono ?_; rintro e w' ⟨rfl, rfl⟩)
  go_region
  go_wp2
  go_end0
  exact ⟨rfl, (((H.out.setb _ _ h0 h1).sett _ _).drew), (((Fr.refl _ _).setCell (Or.inl rfl) _).setCell (Or.inr rfl) _).drew⟩

set_option maxHeartbeats 400000 in
theorem memByte_any (mb bb tb : Nat) (f t : Nat → Int) (w : World) (hm : MemAt w mb bb tb f t) (seg off : Int) (h1 : 0 ≤ seg) (h2 : seg ≤ 65535) (h3 : 0 ≤ off) (h4 : off ≤ 65535) :
    Calls Tryz.prog 57 #[.pointer (some ⟨mb, 0, none⟩), .int .u16 seg, .int .u16 off] w fun e w' => e = .returned (.tuple #[.int .u8 (f (lin seg off)), .bool (t (lin seg off) == 0)]) ∧ w = w' := by
  have H := Lib.hid hm
  clear hm
  have HL := Lib.hid (Nat.mod_eq_of_lt (lin_lt seg off))
  go_enter Tryz.func57, Tryz.ntmps57
  go_wp2_with (first | (go_at_call 84; refine (linear_any _ _ _ h1 h2 h3 h4).mono ?_; rintro e w' ⟨rfl, rfl⟩) | (go_at_call 90; refine (memAt_any _ _ _ _ _ _ H.out _).mono ?_; rw [HL.out]; rintro e w' ⟨rfl, rfl⟩) | (go_at_call 89; refine (memPlain_any _ _ _ _ _ _ H.out _).mono ?_; rw [HL.out]; rintro e w' ⟨rfl, rfl⟩))
  go_ret2
  exact ⟨rfl, rfl⟩

set_option maxHeartbeats 400000 in
theorem memSetByte_any (mb bb tb : Nat) (f t : Nat → Int) (w : World) (hm : MemAt w mb bb tb f t) (seg off : Int) (h1 : 0 ≤ seg) (h2 : seg ≤ 65535) (h3 : 0 ≤ off) (h4 : off ≤ 65535) (v : Int) (h5 : 0 ≤ v) (h6 : v ≤ 255) :
    Calls Tryz.prog 55 #[.pointer (some ⟨mb, 0, none⟩), .int .u16 seg, .int .u16 off, .int .u8 v] w fun e w' => e = .returned (.tuple #[]) ∧ MemAt w' mb bb tb (upd f (lin seg off) v) (upd t (lin seg off) 0) ∧ Fr (ownM bb tb) w w' := by
  have H := Lib.hid hm
  clear hm
  have HL := Lib.hid (Nat.mod_eq_of_lt (lin_lt seg off))
  go_enter Tryz.func55, Tryz.ntmps55
  go_wp2_with fail
  refine (linear_any _ _ _ h1 h2 h3 h4).mono ?_; rintro e w' ⟨rfl, rfl⟩; dsimp only
  go_wp2_with fail
  refine (memSet_any _ _ _ _ _ _ H.out _ _ h5 h6).mono ?_; rw [HL.out]; rintro e w' ⟨rfl, hq⟩; dsimp only
  go_wp2_with fail
  go_end0
  exact ⟨rfl, hq⟩

def mwordT (t : Nat → Int) (x y : Nat) : Bool := t x == 1 && t y == 2
def mwordC (t : Nat → Int) (x y : Nat) : Bool := mwordT t x y || (t x == 0 && t y == 0)
abbrev mwordV (f t : Nat → Int) (x y : Nat) : V := ⟨f x + 256 * f y, mwordT t x y⟩
/-- The offset behind another one. -/
abbrev succW (off : Int) : Int := IntKind.u16.wrap (off + 1)
theorem wrap16_lo (x : Int) : 0 ≤ IntKind.u16.wrap x := by rw [IntKind.wrap_u16]; omega
theorem wrap16_hi (x : Int) : IntKind.u16.wrap x ≤ 65535 := by rw [IntKind.wrap_u16]; omega

set_option maxRecDepth 100000 in
set_option maxHeartbeats 800000 in
theorem memWord_any (mb bb tb : Nat) (f t : Nat → Int) (w : World) (hm : MemAt w mb bb tb f t) (seg off : Int) (h1 : 0 ≤ seg) (h2 : seg ≤ 65535) (h3 : 0 ≤ off) (h4 : off ≤ 65535) :
    Calls Tryz.prog 63 #[.pointer (some ⟨mb, 0, none⟩), .int .u16 seg, .int .u16 off] w fun e w' =>
      e = .returned (.tuple #[(mwordV f t (lin seg off) (lin seg (succW off))).val, .bool (mwordC t (lin seg off) (lin seg (succW off)))]) ∧ Below w.heap.size w w' := by
  have H := Lib.hid hm
  clear hm
  have HL := Lib.hid (Nat.mod_eq_of_lt (lin_lt seg off))
  have HM := Lib.hid (Nat.mod_eq_of_lt (lin_lt seg (succW off)))
  go_enter Tryz.func63, Tryz.ntmps63
  go_wp2_with fail
  refine (linear_any _ _ _ h1 h2 h3 h4).mono ?_; rintro e w' ⟨rfl, rfl⟩; dsimp only
  go_wp2_with fail
  refine (linear_any _ _ _ h1 h2 (wrap16_lo _) (wrap16_hi _)).mono ?_; rintro e w' ⟨rfl, rfl⟩; dsimp only
  go_wp2_with fail
  refine (memAt_any _ _ _ _ _ _ (H.out.alloc _) _).mono ?_; rw [HL.out]; rintro e w' ⟨rfl, rfl⟩; dsimp only
  go_wp2_with fail
  refine (memAt_any _ _ _ _ _ _ (H.out.alloc _) _).mono ?_; rw [HM.out]; rintro e w' ⟨rfl, rfl⟩; dsimp only
  go_wp2_with fail
  have wx := H.out.wf (lin seg off)
  have wy := H.out.wf (lin seg (succW off))
  refine (bword_any _ _ _ wx.1 wx.2 wy.1 wy.2).mono ?_; rintro e w' ⟨rfl, rfl⟩; dsimp only
  clear wx wy
  go_wp2_with fail
  refine (memOk_any _ _ _ _ _ _ ((H.out.alloc _).alloc _)).mono ?_; rintro e w' ⟨rfl, rfl⟩; dsimp only
  have c1 := H.out.c1
  have ct1 := H.out.ct _ (lin_lt seg off)
  have ct2 := H.out.ct _ (lin_lt seg (succW off))
  have l1 := H.out.r.lt
  have l2 := H.out.t.lt
  have b1 : ((lin seg off : Nat) : Int) < 1048576 := by have := lin_lt seg off; omega
  have b2 : ((lin seg (succW off) : Nat) : Int) < 1048576 := by have := lin_lt seg (succW off); omega
  have b3 : (0 : Int) ≤ ((lin seg off : Nat) : Int) := by omega
  have b4 : (0 : Int) ≤ ((lin seg (succW off) : Nat) : Int) := by omega
  go_wp2_with fail
  go_region
  clear c1 ct1 ct2 l1 l2 b1 b2 b3 b4
  go_wp2_with fail
  all_goals
    refine bodyPost_ret (v := .tuple #[(mwordV f t (lin seg off) (lin seg (succW off))).val, .bool (mwordC t (lin seg off) (lin seg (succW off)))]) (by simp_all [results, Tryz.results63, go_sem, mwordT, mwordC]) rfl ⟨rfl, ?_⟩
    (repeat (first | exact Below.refl _ _ | assumption | refine Below.setCell ?_ (by simp) _ | refine Below.alloc ?_ (by simp <;> omega) _ | refine Below.drew ?_ | refine Below.drewN ?_ | refine Below.setRow ?_ (by simp <;> omega) _))
end Go.Proofs.YtcglkefaopgjeaaGreatDoor

/- The contracts of package mem, continued. -/
namespace Go.Proofs.YtcglkefaopgjeaaGreatDoor
set_option linter.unusedSimpArgs false
set_option linter.unusedVariables false
open Go.RowKit

def setF (f : Nat → Int) (x y : Nat) (v : Int) : Nat → Int := upd (upd f x (v % 256)) y (v / 256)
def setT (t : Nat → Int) (x y : Nat) (b : Bool) : Nat → Int := if b then upd (upd (upd (upd t x 0) y 0) x 1) y 2 else upd (upd t x 0) y 0

theorem lin_ne (seg off : Int) (h3 : 0 ≤ off) (h4 : off ≤ 65535) : lin seg off ≠ lin seg (succW off) := by
  unfold lin succW
  rw [IntKind.wrap_u16]
  omega

set_option maxRecDepth 100000 in
set_option maxHeartbeats 800000 in
theorem memSetWord_any (mb bb tb : Nat) (f t : Nat → Int) (w : World) (hm : MemAt w mb bb tb f t) (seg off : Int) (h1 : 0 ≤ seg) (h2 : seg ≤ 65535) (h3 : 0 ≤ off) (h4 : off ≤ 65535) (v : V) (h5 : 0 ≤ v.v) (h6 : v.v ≤ 65535) :
    Calls Tryz.prog 40 #[.pointer (some ⟨mb, 0, none⟩), .int .u16 seg, .int .u16 off, v.val] w fun e w' =>
      e = .returned (.tuple #[]) ∧ MemAt w' mb bb tb (setF f (lin seg off) (lin seg (succW off)) v.v) (setT t (lin seg off) (lin seg (succW off)) v.t) ∧ Fr (ownM bb tb) w w' := by
  have H := Lib.hid (hm.alloc (.cells #[.int .u16 v.v, .bool v.t] 24))
  have F0 : Fr (ownM bb tb) w (w.alloc (.cells #[.int .u16 v.v, .bool v.t] 24)) := (Fr.refl _ _).alloc _
  have R0 : Row (w.alloc (.cells #[.int .u16 v.v, .bool v.t] 24)) w.heap.size #[.int .u16 v.v, .bool v.t] 24 := Row.new _ _ _
  have n0 : ¬ ownM bb tb w.heap.size := by
    have := hm.b.lt
    have := hm.t.lt
    rintro (h | h) <;> omega
  clear hm
  have HL := Lib.hid (Nat.mod_eq_of_lt (lin_lt seg off))
  have HM := Lib.hid (Nat.mod_eq_of_lt (lin_lt seg (succW off)))
  go_enter Tryz.func40, Tryz.ntmps40
  have HR := Lib.hid R0
  have HF := Lib.hid F0
  have HN := Lib.hid n0
  clear R0 F0 n0
  go_wp2_with fail
  refine (memOk_any _ _ _ _ _ _ H.out).mono ?_; rintro e w' ⟨rfl, rfl⟩; dsimp only
  go_wp2_with fail
  refine (linear_any _ _ _ h1 h2 h3 h4).mono ?_; rintro e w' ⟨rfl, rfl⟩; dsimp only
  go_wp2_with fail
  refine (linear_any _ _ _ h1 h2 (wrap16_lo _) (wrap16_hi _)).mono ?_; rintro e w' ⟨rfl, rfl⟩; dsimp only
  go_wp2_with fail
  refine (low_any _ _ h5 h6).mono ?_; rintro e w' ⟨rfl, rfl⟩; dsimp only
  go_wp2_with fail
  refine (memSet_any _ _ _ _ _ _ H.out _ _ (by omega) (by omega)).mono ?_; rw [HL.out]; rintro e w1 ⟨rfl, hm1, hf1⟩; dsimp only
  have r1 := (hf1.row HR.out HN.out).cell
  have H1 := Lib.hid hm1
  have G1 := Lib.hid (HF.out.trans hf1)
  have HR1 := Lib.hid (hf1.row HR.out HN.out)
  clear hm1 hf1
  go_wp2_with fail
  refine (high_any _ _ h5 h6).mono ?_; rintro e w' ⟨rfl, rfl⟩; dsimp only
  go_wp2_with fail
  refine (memSet_any _ _ _ _ _ _ H1.out _ _ (by omega) (by omega)).mono ?_; rw [HM.out]; rintro e w2 ⟨rfl, hm2, hf2⟩; dsimp only
  clear r1
  have r2 := (hf2.row HR1.out HN.out).cell
  have H2 := Lib.hid hm2
  have G2 := Lib.hid (G1.out.trans hf2)
  clear hm2 hf2
  by_cases hv : v.t = true
  · go_wp2_with fail
    have c1 := H2.out.c1
    have ct1 := H2.out.ct _ (lin_lt seg off)
    have ct2 := H2.out.ct _ (lin_lt seg (succW off))
    have f1 := H2.out.t.frozen (lin seg off)
    have f2 := H2.out.t.frozen (lin seg (succW off))
    have b1 : ((lin seg off : Nat) : Int) < 1048576 := by have := lin_lt seg off; omega
    have b2 : ((lin seg (succW off) : Nat) : Int) < 1048576 := by have := lin_lt seg (succW off); omega
    have b3 : (0 : Int) ≤ ((lin seg off : Nat) : Int) := by omega
    have b4 : (0 : Int) ≤ ((lin seg (succW off) : Nat) : Int) := by omega
    have e1 := lin_ne seg off h3 h4
    have e2 := Ne.symm e1
    go_region
    clear c1 ct1 ct2 b1 b2 b3 b4 e1 e2 f1 f2 r2
    go_wp2_with fail
    go_end0
    refine ⟨rfl, ?_, ?_⟩
    · rw [setT, if_pos hv, setF]
      exact (((H2.out.sett _ _).sett _ _).drew)
    · exact (((G2.out.setCell (Or.inr rfl) _).setCell (Or.inr rfl) _).drew)
  · go_wp2_with fail
    go_end0
    refine ⟨rfl, ?_, G2.out⟩
    rw [setT, if_neg hv, setF]
    exact H2.out
end Go.Proofs.YtcglkefaopgjeaaGreatDoor

/- mem.New. -/
namespace Go.Proofs.YtcglkefaopgjeaaGreatDoor
set_option linter.unusedSimpArgs false
set_option linter.unusedVariables false
open Go.RowKit

def zeroRow : Array Value := ByteRow fun _ => 0
theorem made_zero : madeCells #[.int .u8 0] 1048576 = zeroRow := by
  unfold madeCells zeroRow
  unfold ByteRow
  apply Array.ext
  · rw [Array.size_map, Array.size_range, Array.size_ofFn]
  · intro i h1 h2
    rw [Array.getElem_map, Array.getElem_ofFn]
    simp [Nat.mod_one]
attribute [irreducible] zeroRow
theorem zero_row : zeroRow = ByteRow fun _ => 0 := by unfold zeroRow; rfl
theorem info_u8 : (Tryz.prog.info? 5).map (fun i => (i.zero, i.size, i.bytes)) = some (some (.int .u8 0), 1, 1) := by kernel_rfl
theorem run_makeMem (w : World) : (Instr.makeSlice 32 (.int .i64 1048576) (.int .i64 1048576)).run Tryz.prog w = .ok (.slice (some ⟨w.heap.size, 0, none⟩) 1048576 1048576) (w.alloc (.cells zeroRow 5)) := by
  obtain ⟨i, hi, hz0, hz1, hz2⟩ := info_parts info_u8
  have := run_make (P := Tryz.prog) w 32 5 i (.int .u8 0) Tryz.underlying32 hi hz0 .i64 .i64 1048576 1048576 (by decide) (by decide) (by rw [hz2]; decide) (by decide)
  rw [this, hz1]
  have e : ((1048576 : Int).toNat * 1) = 1048576 := by decide
  rw [e]
  show Result.ok _ (w.alloc (.cells (madeCells #[.int .u8 0] 1048576) _)) = _
  rw [made_zero]
  rfl


theorem row_zero (w : World) (g : Nat) (h : Row w g zeroRow 5) : Row w g (ByteRow fun _ => 0) 5 := zero_row ▸ h

theorem new_rows (w : World) (bb tb : Nat) (h : bb = w.heap.size ∧ tb = w.heap.size + 1 ∨ bb = w.heap.size + 1 ∧ tb = w.heap.size) :
    MemAt (((w.alloc (.cells zeroRow 5)).alloc (.cells zeroRow 5)).alloc (.cells (memCells bb tb) 138)) (w.heap.size + 1 + 1) bb tb (fun _ => 0) (fun _ => 0) := by
  have r0 := (((Row.new w zeroRow 5).alloc (.cells zeroRow 5)).alloc (.cells (memCells bb tb) 138))
  have r1 := ((Row.new (w.alloc (.cells zeroRow 5)) zeroRow 5).alloc (.cells (memCells bb tb) 138))
  have r2 := Row.new ((w.alloc (.cells zeroRow 5)).alloc (.cells zeroRow 5)) (memCells bb tb) 138
  rw [World.size_alloc] at r1
  rw [World.size_alloc, World.size_alloc] at r2
  have r0' := row_zero _ _ r0
  have r1' := row_zero _ _ r1
  have wf : ∀ k : Nat, (0 : Int) ≤ (fun _ : Nat => (0 : Int)) k ∧ (fun _ : Nat => (0 : Int)) k ≤ 255 := fun _ => ⟨Int.le_refl 0, (by decide : (0 : Int) ≤ 255)⟩
  rcases h with ⟨rfl, rfl⟩ | ⟨rfl, rfl⟩
  · exact ⟨r2, r0', r1', by omega, by omega, by omega, wf⟩
  · exact ⟨r2, r1', r0', by omega, by omega, by omega, wf⟩
set_option maxHeartbeats 800000 in
theorem memNew_any (w : World) : Calls Tryz.prog 52 #[] w fun e w' => ∃ mb bb tb, e = .returned (.pointer (some ⟨mb, 0, none⟩)) ∧ MemAt w' mb bb tb (fun _ => 0) (fun _ => 0) ∧ Below w.heap.size w w' ∧ w.heap.size ≤ mb ∧ w.heap.size ≤ bb ∧ w.heap.size ≤ tb := by
  have hmk := run_makeMem
  go_enter Tryz.func52, Tryz.ntmps52
  go_wp2_with fail
  go_region
  · go_wp2_with fail
    go_ret
    refine ⟨w.heap.size + 1 + 1, w.heap.size, w.heap.size + 1, rfl, (new_rows w _ _ (Or.inl ⟨rfl, rfl⟩)).drew, (by (repeat (first | exact Below.refl _ _ | assumption | refine Below.setCell ?_ (by simp) _ | refine Below.alloc ?_ (by simp <;> omega) _ | refine Below.drew ?_ | refine Below.drewN ?_ | refine Below.setRow ?_ (by simp <;> omega) _))), by omega, by omega, by omega⟩
  · go_wp2_with fail
    go_ret
    refine ⟨w.heap.size + 1 + 1, w.heap.size + 1, w.heap.size, rfl, (new_rows w _ _ (Or.inr ⟨rfl, rfl⟩)).drew, (by (repeat (first | exact Below.refl _ _ | assumption | refine Below.setCell ?_ (by simp) _ | refine Below.alloc ?_ (by simp <;> omega) _ | refine Below.drew ?_ | refine Below.drewN ?_ | refine Below.setRow ?_ (by simp <;> omega) _))), by omega, by omega, by omega⟩
end Go.Proofs.YtcglkefaopgjeaaGreatDoor

/- Contracts of package flow: Holds, Is. -/
namespace Go.Proofs.YtcglkefaopgjeaaGreatDoor
set_option linter.unusedSimpArgs false
set_option linter.unusedVariables false
open Go.RowKit

/-- Is a flag set? -/
def fl (f b : Int) : Bool := bits .and .u16 f b != 0
def less (f : Int) : Bool := fl f 128 != fl f 2048
/-- Which condition holds. -/
def holdsB (name f : Int) : Bool :=
  if name = 17 then fl f 2048 else if name = 18 then !fl f 2048 else if name = 19 then fl f 1 else if name = 20 then !fl f 1
  else if name = 21 then fl f 64 else if name = 22 then !fl f 64 else if name = 23 then fl f 1 || fl f 64 else if name = 24 then !(fl f 1 || fl f 64)
  else if name = 25 then fl f 128 else if name = 26 then !fl f 128 else if name = 27 then fl f 4 else if name = 28 then !fl f 4
  else if name = 29 then less f else if name = 30 then !less f else if name = 31 then less f || fl f 64 else if name = 32 then !(less f || fl f 64) else false

set_option maxHeartbeats 400000 in
theorem flagIs_any (w : World) (k : Nat) (f b : Int) (hc : w.cell? ⟨k, 0, none⟩ = some (.int .u16 f)) :
    Calls Tryz.prog 178 #[.int .u16 b, .pointer (some ⟨k, 0, none⟩)] w fun e w' => e = .returned (.bool (fl f b)) ∧ w = w' := by
  go_enter Tryz.func178, Tryz.ntmps178
  go_wp2_with fail
  go_ret
  exact ⟨rfl, rfl⟩

set_option maxRecDepth 100000 in
set_option maxHeartbeats 1600000 in
theorem holds_17 (name f : Int) (w : World) (h0 : 17 ≤ name) (h1 : name ≤ 18) : Calls Tryz.prog 125 #[.int .i64 name, .int .u16 f] w fun e w' => e = .returned (.bool (fl f 2048 != (bits .and .i64 (name - 17) 1 == 1))) ∧ Below w.heap.size w w' := by
  have hd : (name - 17) / 2 = 0 := by omega
  have HD := Lib.hid hd
  clear hd
  have t0 : ((name - 17) / 2 == 0) = true := by rw [HD.out]; rfl
  go_enter Tryz.func125, Tryz.ntmps125
  go_wp2_with (go_at_call 178; refine (flagIs_any _ _ f _ (by simp [go_sem])).mono ?_; rintro e w' ⟨rfl, rfl⟩)
  all_goals
    go_ret
    exact ⟨by (simp_all [less, bne] <;> (cases h1 : fl f 128 <;> cases h2 : fl f 2048 <;> simp_all)), by (repeat (first | exact Below.refl _ _ | assumption | refine Below.setCell ?_ (by simp) _ | refine Below.alloc ?_ (by simp <;> omega) _ | refine Below.drew ?_ | refine Below.drewN ?_ | refine Below.setRow ?_ (by simp <;> omega) _))⟩

set_option maxRecDepth 100000 in
set_option maxHeartbeats 1600000 in
theorem holds_19 (name f : Int) (w : World) (h0 : 19 ≤ name) (h1 : name ≤ 20) : Calls Tryz.prog 125 #[.int .i64 name, .int .u16 f] w fun e w' => e = .returned (.bool (fl f 1 != (bits .and .i64 (name - 17) 1 == 1))) ∧ Below w.heap.size w w' := by
  have hd : (name - 17) / 2 = 1 := by omega
  have HD := Lib.hid hd
  clear hd
  have t0 : ((name - 17) / 2 == 0) = false := by rw [HD.out]; rfl
  have t1 : ((name - 17) / 2 == 1) = true := by rw [HD.out]; rfl
  go_enter Tryz.func125, Tryz.ntmps125
  go_wp2_with (go_at_call 178; refine (flagIs_any _ _ f _ (by simp [go_sem])).mono ?_; rintro e w' ⟨rfl, rfl⟩)
  all_goals
    go_ret
    exact ⟨by (simp_all [less, bne] <;> (cases h1 : fl f 128 <;> cases h2 : fl f 2048 <;> simp_all)), by (repeat (first | exact Below.refl _ _ | assumption | refine Below.setCell ?_ (by simp) _ | refine Below.alloc ?_ (by simp <;> omega) _ | refine Below.drew ?_ | refine Below.drewN ?_ | refine Below.setRow ?_ (by simp <;> omega) _))⟩

set_option maxRecDepth 100000 in
set_option maxHeartbeats 1600000 in
theorem holds_21 (name f : Int) (w : World) (h0 : 21 ≤ name) (h1 : name ≤ 22) : Calls Tryz.prog 125 #[.int .i64 name, .int .u16 f] w fun e w' => e = .returned (.bool (fl f 64 != (bits .and .i64 (name - 17) 1 == 1))) ∧ Below w.heap.size w w' := by
  have hd : (name - 17) / 2 = 2 := by omega
  have HD := Lib.hid hd
  clear hd
  have t0 : ((name - 17) / 2 == 0) = false := by rw [HD.out]; rfl
  have t1 : ((name - 17) / 2 == 1) = false := by rw [HD.out]; rfl
  have t2 : ((name - 17) / 2 == 2) = true := by rw [HD.out]; rfl
  go_enter Tryz.func125, Tryz.ntmps125
  go_wp2_with (go_at_call 178; refine (flagIs_any _ _ f _ (by simp [go_sem])).mono ?_; rintro e w' ⟨rfl, rfl⟩)
  all_goals
    go_ret
    exact ⟨by (simp_all [less, bne] <;> (cases h1 : fl f 128 <;> cases h2 : fl f 2048 <;> simp_all)), by (repeat (first | exact Below.refl _ _ | assumption | refine Below.setCell ?_ (by simp) _ | refine Below.alloc ?_ (by simp <;> omega) _ | refine Below.drew ?_ | refine Below.drewN ?_ | refine Below.setRow ?_ (by simp <;> omega) _))⟩

set_option maxRecDepth 100000 in
set_option maxHeartbeats 1600000 in
theorem holds_23 (name f : Int) (w : World) (h0 : 23 ≤ name) (h1 : name ≤ 24) : Calls Tryz.prog 125 #[.int .i64 name, .int .u16 f] w fun e w' => e = .returned (.bool ((fl f 1 || fl f 64) != (bits .and .i64 (name - 17) 1 == 1))) ∧ Below w.heap.size w w' := by
  have hd : (name - 17) / 2 = 3 := by omega
  have HD := Lib.hid hd
  clear hd
  have t0 : ((name - 17) / 2 == 0) = false := by rw [HD.out]; rfl
  have t1 : ((name - 17) / 2 == 1) = false := by rw [HD.out]; rfl
  have t2 : ((name - 17) / 2 == 2) = false := by rw [HD.out]; rfl
  have t3 : ((name - 17) / 2 == 3) = true := by rw [HD.out]; rfl
  go_enter Tryz.func125, Tryz.ntmps125
  go_wp2_with (go_at_call 178; refine (flagIs_any _ _ f _ (by simp [go_sem])).mono ?_; rintro e w' ⟨rfl, rfl⟩)
  all_goals
    go_ret
    exact ⟨by (simp_all [less, bne] <;> (cases h1 : fl f 128 <;> cases h2 : fl f 2048 <;> simp_all)), by (repeat (first | exact Below.refl _ _ | assumption | refine Below.setCell ?_ (by simp) _ | refine Below.alloc ?_ (by simp <;> omega) _ | refine Below.drew ?_ | refine Below.drewN ?_ | refine Below.setRow ?_ (by simp <;> omega) _))⟩

set_option maxRecDepth 100000 in
set_option maxHeartbeats 1600000 in
theorem holds_25 (name f : Int) (w : World) (h0 : 25 ≤ name) (h1 : name ≤ 26) : Calls Tryz.prog 125 #[.int .i64 name, .int .u16 f] w fun e w' => e = .returned (.bool (fl f 128 != (bits .and .i64 (name - 17) 1 == 1))) ∧ Below w.heap.size w w' := by
  have hd : (name - 17) / 2 = 4 := by omega
  have HD := Lib.hid hd
  clear hd
  have t0 : ((name - 17) / 2 == 0) = false := by rw [HD.out]; rfl
  have t1 : ((name - 17) / 2 == 1) = false := by rw [HD.out]; rfl
  have t2 : ((name - 17) / 2 == 2) = false := by rw [HD.out]; rfl
  have t3 : ((name - 17) / 2 == 3) = false := by rw [HD.out]; rfl
  have t4 : ((name - 17) / 2 == 4) = true := by rw [HD.out]; rfl
  go_enter Tryz.func125, Tryz.ntmps125
  go_wp2_with (go_at_call 178; refine (flagIs_any _ _ f _ (by simp [go_sem])).mono ?_; rintro e w' ⟨rfl, rfl⟩)
  all_goals
    go_ret
    exact ⟨by (simp_all [less, bne] <;> (cases h1 : fl f 128 <;> cases h2 : fl f 2048 <;> simp_all)), by (repeat (first | exact Below.refl _ _ | assumption | refine Below.setCell ?_ (by simp) _ | refine Below.alloc ?_ (by simp <;> omega) _ | refine Below.drew ?_ | refine Below.drewN ?_ | refine Below.setRow ?_ (by simp <;> omega) _))⟩

set_option maxRecDepth 100000 in
set_option maxHeartbeats 1600000 in
theorem holds_27 (name f : Int) (w : World) (h0 : 27 ≤ name) (h1 : name ≤ 28) : Calls Tryz.prog 125 #[.int .i64 name, .int .u16 f] w fun e w' => e = .returned (.bool (fl f 4 != (bits .and .i64 (name - 17) 1 == 1))) ∧ Below w.heap.size w w' := by
  have hd : (name - 17) / 2 = 5 := by omega
  have HD := Lib.hid hd
  clear hd
  have t0 : ((name - 17) / 2 == 0) = false := by rw [HD.out]; rfl
  have t1 : ((name - 17) / 2 == 1) = false := by rw [HD.out]; rfl
  have t2 : ((name - 17) / 2 == 2) = false := by rw [HD.out]; rfl
  have t3 : ((name - 17) / 2 == 3) = false := by rw [HD.out]; rfl
  have t4 : ((name - 17) / 2 == 4) = false := by rw [HD.out]; rfl
  have t5 : ((name - 17) / 2 == 5) = true := by rw [HD.out]; rfl
  go_enter Tryz.func125, Tryz.ntmps125
  go_wp2_with (go_at_call 178; refine (flagIs_any _ _ f _ (by simp [go_sem])).mono ?_; rintro e w' ⟨rfl, rfl⟩)
  all_goals
    go_ret
    exact ⟨by (simp_all [less, bne] <;> (cases h1 : fl f 128 <;> cases h2 : fl f 2048 <;> simp_all)), by (repeat (first | exact Below.refl _ _ | assumption | refine Below.setCell ?_ (by simp) _ | refine Below.alloc ?_ (by simp <;> omega) _ | refine Below.drew ?_ | refine Below.drewN ?_ | refine Below.setRow ?_ (by simp <;> omega) _))⟩

set_option maxRecDepth 100000 in
set_option maxHeartbeats 1600000 in
theorem holds_29 (name f : Int) (w : World) (h0 : 29 ≤ name) (h1 : name ≤ 30) : Calls Tryz.prog 125 #[.int .i64 name, .int .u16 f] w fun e w' => e = .returned (.bool (less f != (bits .and .i64 (name - 17) 1 == 1))) ∧ Below w.heap.size w w' := by
  have hd : (name - 17) / 2 = 6 := by omega
  have HD := Lib.hid hd
  clear hd
  have t0 : ((name - 17) / 2 == 0) = false := by rw [HD.out]; rfl
  have t1 : ((name - 17) / 2 == 1) = false := by rw [HD.out]; rfl
  have t2 : ((name - 17) / 2 == 2) = false := by rw [HD.out]; rfl
  have t3 : ((name - 17) / 2 == 3) = false := by rw [HD.out]; rfl
  have t4 : ((name - 17) / 2 == 4) = false := by rw [HD.out]; rfl
  have t5 : ((name - 17) / 2 == 5) = false := by rw [HD.out]; rfl
  have t6 : ((name - 17) / 2 == 6) = true := by rw [HD.out]; rfl
  go_enter Tryz.func125, Tryz.ntmps125
  go_wp2_with (go_at_call 178; refine (flagIs_any _ _ f _ (by simp [go_sem])).mono ?_; rintro e w' ⟨rfl, rfl⟩)
  all_goals
    go_ret
    exact ⟨by (simp_all [less, bne] <;> (cases h1 : fl f 128 <;> cases h2 : fl f 2048 <;> simp_all)), by (repeat (first | exact Below.refl _ _ | assumption | refine Below.setCell ?_ (by simp) _ | refine Below.alloc ?_ (by simp <;> omega) _ | refine Below.drew ?_ | refine Below.drewN ?_ | refine Below.setRow ?_ (by simp <;> omega) _))⟩

set_option maxRecDepth 100000 in
set_option maxHeartbeats 1600000 in
theorem holds_31 (name f : Int) (w : World) (h0 : 31 ≤ name) (h1 : name ≤ 32) : Calls Tryz.prog 125 #[.int .i64 name, .int .u16 f] w fun e w' => e = .returned (.bool ((less f || fl f 64) != (bits .and .i64 (name - 17) 1 == 1))) ∧ Below w.heap.size w w' := by
  have hd : (name - 17) / 2 = 7 := by omega
  have HD := Lib.hid hd
  clear hd
  have t0 : ((name - 17) / 2 == 0) = false := by rw [HD.out]; rfl
  have t1 : ((name - 17) / 2 == 1) = false := by rw [HD.out]; rfl
  have t2 : ((name - 17) / 2 == 2) = false := by rw [HD.out]; rfl
  have t3 : ((name - 17) / 2 == 3) = false := by rw [HD.out]; rfl
  have t4 : ((name - 17) / 2 == 4) = false := by rw [HD.out]; rfl
  have t5 : ((name - 17) / 2 == 5) = false := by rw [HD.out]; rfl
  have t6 : ((name - 17) / 2 == 6) = false := by rw [HD.out]; rfl
  have t7 : ((name - 17) / 2 == 7) = true := by rw [HD.out]; rfl
  go_enter Tryz.func125, Tryz.ntmps125
  go_wp2_with (go_at_call 178; refine (flagIs_any _ _ f _ (by simp [go_sem])).mono ?_; rintro e w' ⟨rfl, rfl⟩)
  all_goals
    go_ret
    exact ⟨by (simp_all [less, bne] <;> (cases h1 : fl f 128 <;> cases h2 : fl f 2048 <;> simp_all)), by (repeat (first | exact Below.refl _ _ | assumption | refine Below.setCell ?_ (by simp) _ | refine Below.alloc ?_ (by simp <;> omega) _ | refine Below.drew ?_ | refine Below.drewN ?_ | refine Below.setRow ?_ (by simp <;> omega) _))⟩

end Go.Proofs.YtcglkefaopgjeaaGreatDoor
