/- Package isa: the rows of instructions. -/
import Derived.Test.YtcglkefaopgjeaaGreatDoorE2
namespace Go.Proofs.YtcglkefaopgjeaaGreatDoor
set_option linter.unusedSimpArgs false
set_option linter.unusedVariables false
open Go.RowKit

def zRow : IRow := ⟨0, 0, 0, false⟩
/-- A row, or none. -/
abbrev rowV (r : Option IRow) : Value := .tuple #[(r.getD zRow).val, .bool r.isSome]
abbrev rw0 (n a b : Int) : Option IRow := some ⟨n, a, b, false⟩
abbrev rw1 (n a b : Int) : Option IRow := some ⟨n, a, b, true⟩
def sumsOf (op : Int) : Option IRow :=
  if op % 8 = 0 then rw1 (1 + op / 8) 1 3 else if op % 8 = 1 then rw1 (1 + op / 8) 2 4 else if op % 8 = 2 then rw1 (1 + op / 8) 3 1 else if op % 8 = 3 then rw1 (1 + op / 8) 4 2 else
  if op % 8 = 4 then rw0 (1 + op / 8) 14 6 else if op % 8 = 5 then rw0 (1 + op / 8) 16 7 else
  if op = 6 ∨ op = 14 ∨ op = 22 ∨ op = 30 then rw0 9 23 0 else if op = 7 ∨ op = 23 ∨ op = 31 then rw0 10 23 0 else
  if op = 39 then rw0 11 0 0 else if op = 47 then rw0 12 0 0 else if op = 55 then rw0 13 0 0 else if op = 63 then rw0 14 0 0 else none
def movesOf (op reg : Int) : Option IRow :=
  if op = 128 then rw1 (1 + reg) 1 6 else if op = 129 then rw1 (1 + reg) 2 7 else
  if op = 131 then (if reg = 1 ∨ reg = 4 ∨ reg = 6 then none else rw1 (1 + reg) 2 8) else
  if op = 132 then rw1 33 1 3 else if op = 133 then rw1 33 2 4 else if op = 134 then rw1 34 1 3 else if op = 135 then rw1 34 2 4 else
  if op = 136 then rw1 35 1 3 else if op = 137 then rw1 35 2 4 else if op = 138 then rw1 35 3 1 else if op = 139 then rw1 35 4 2 else
  if op = 140 then (if reg < 4 then rw1 35 2 5 else none) else if op = 141 then rw1 36 4 20 else
  if op = 142 then (if reg < 4 ∧ reg ≠ 1 then rw1 35 5 2 else none) else if op = 143 then (if reg = 0 then rw1 10 2 0 else none) else none
def wordsOf (op : Int) : Option IRow :=
  if op < 152 then rw0 34 16 22 else if op = 154 then rw0 40 11 0 else
  if op = 152 then rw0 37 0 0 else if op = 153 then rw0 38 0 0 else if op = 155 then rw0 41 0 0 else if op = 156 then rw0 42 0 0 else if op = 157 then rw0 43 0 0 else if op = 158 then rw0 44 0 0 else rw0 45 0 0
def textsOf (op : Int) : Option IRow :=
  if op = 160 then rw0 35 14 12 else if op = 161 then rw0 35 16 13 else if op = 162 then rw0 35 12 14 else if op = 163 then rw0 35 13 16 else
  if op = 168 then rw0 33 14 6 else if op = 169 then rw0 33 16 7 else if op < 168 then rw0 (46 + (op - 164)) 0 0 else rw0 (50 + (op - 170)) 0 0
def backsOf (op reg : Int) : Option IRow :=
  if op = 194 then rw0 56 7 0 else if op = 195 then rw0 56 0 0 else if op = 196 then rw1 58 4 19 else if op = 197 then rw1 59 4 19 else
  if op = 198 then (if reg = 0 then rw1 35 1 6 else none) else if op = 199 then (if reg = 0 then rw1 35 2 7 else none) else
  if op = 202 then rw0 57 7 0 else if op = 203 then rw0 57 0 0 else if op = 204 then rw0 60 24 0 else if op = 205 then rw0 60 6 0 else
  if op = 206 then rw0 61 0 0 else if op = 207 then rw0 62 0 0 else none
def turnsOf (op reg : Int) : Option IRow :=
  if op < 212 then (if reg = 6 then none else rw1 (if reg = 7 then 69 else 63 + reg) (if op % 2 = 1 then 2 else 1) (if op < 210 then 18 else 15)) else
  if op = 212 then rw0 70 6 0 else if op = 213 then rw0 71 6 0 else if op = 215 then rw0 72 0 0 else if 216 ≤ op then rw1 73 2 0 else none
def goesOf (op : Int) : Option IRow :=
  if op < 228 then rw0 (74 + (op - 224)) 9 0 else if op = 228 then rw0 78 14 6 else if op = 229 then rw0 78 16 6 else if op = 230 then rw0 79 6 14 else if op = 231 then rw0 79 6 16 else
  if op = 232 then rw0 39 10 0 else if op = 233 then rw0 80 10 0 else if op = 234 then rw0 81 11 0 else if op = 235 then rw0 80 9 0 else
  if op = 236 then rw0 78 14 17 else if op = 237 then rw0 78 16 17 else if op = 238 then rw0 79 17 14 else rw0 79 17 16
def restOf (op reg : Int) : Option IRow :=
  if op = 244 then rw0 82 0 0 else if op = 245 then rw0 83 0 0 else if 248 ≤ op ∧ op < 254 then rw0 (90 + (op - 248)) 0 0 else if op < 246 then none else
  if op < 248 then (if reg = 0 then rw1 33 (if op % 2 = 1 then 2 else 1) (if op % 2 = 1 then 7 else 6) else if reg = 1 then none else rw1 (84 + reg - 2) (if op % 2 = 1 then 2 else 1) 0) else
  if reg < 2 then rw1 (15 + reg) (if op % 2 = 1 then 2 else 1) 0 else if op = 254 ∨ reg = 7 then none else
  if reg = 2 then rw1 39 2 0 else if reg = 3 then rw1 40 19 0 else if reg = 4 then rw1 80 2 0 else if reg = 5 then rw1 81 19 0 else rw1 9 2 0
def isaOf (op reg : Int) : Option IRow :=
  if op < 64 then sumsOf op else if op < 96 then rw0 (if op < 72 then 15 else if op < 80 then 16 else if op < 88 then 9 else 10) 22 0 else if op < 112 then none else
  if op < 128 then rw0 (17 + (op - 112)) 9 0 else if op < 144 then movesOf op reg else if op < 160 then wordsOf op else if op < 176 then textsOf op else
  if op < 184 then rw0 35 21 6 else if op < 192 then rw0 35 22 7 else if op < 208 then backsOf op reg else if op < 224 then turnsOf op reg else if op < 240 then goesOf op else restOf op reg

set_option maxHeartbeats 400000 in
theorem isaRow_any (n a b : Int) (w : World) : Calls Tryz.prog 154 #[.int .i64 n, .int .i64 a, .int .i64 b] w fun e w' => e = .returned (.tuple #[.agg #[.int .i64 n, .int .i64 a, .int .i64 b, .bool false], .bool true]) ∧ Below w.heap.size w w' := by
  go_enter Tryz.func154, Tryz.ntmps154
  go_wp2
  refine bodyPost_ret (v := .tuple #[.agg #[.int .i64 n, .int .i64 a, .int .i64 b, .bool false], .bool true]) (by simp [results, Tryz.results154, go_sem]) rfl ⟨rfl, ?_⟩
  (repeat (first | exact Below.refl _ _ | assumption | refine Below.setCell ?_ (by simp) _ | refine Below.alloc ?_ (by simp <;> omega) _ | refine Below.drew ?_ | refine Below.drewN ?_ | refine Below.setRow ?_ (by simp <;> omega) _))
set_option maxHeartbeats 400000 in
theorem isaMod_any (n a b : Int) (w : World) : Calls Tryz.prog 199 #[.int .i64 n, .int .i64 a, .int .i64 b] w fun e w' => e = .returned (.tuple #[.agg #[.int .i64 n, .int .i64 a, .int .i64 b, .bool true], .bool true]) ∧ Below w.heap.size w w' := by
  go_enter Tryz.func199, Tryz.ntmps199
  go_wp2
  refine bodyPost_ret (v := .tuple #[.agg #[.int .i64 n, .int .i64 a, .int .i64 b, .bool true], .bool true]) (by simp [results, Tryz.results199, go_sem]) rfl ⟨rfl, ?_⟩
  (repeat (first | exact Below.refl _ _ | assumption | refine Below.setCell ?_ (by simp) _ | refine Below.alloc ?_ (by simp <;> omega) _ | refine Below.drew ?_ | refine Below.drewN ?_ | refine Below.setRow ?_ (by simp <;> omega) _))
set_option maxHeartbeats 400000 in
theorem isaBad_any (w : World) : Calls Tryz.prog 155 #[] w fun e w' => e = .returned (.tuple #[.agg #[.int .i64 0, .int .i64 0, .int .i64 0, .bool false], .bool false]) ∧ Below w.heap.size w w' := by
  go_enter Tryz.func155, Tryz.ntmps155
  go_wp2
  refine bodyPost_ret (v := .tuple #[.agg #[.int .i64 0, .int .i64 0, .int .i64 0, .bool false], .bool false]) (by simp [results, Tryz.results155, go_sem]) rfl ⟨rfl, ?_⟩
  (repeat (first | exact Below.refl _ _ | assumption | refine Below.setCell ?_ (by simp) _ | refine Below.alloc ?_ (by simp <;> omega) _ | refine Below.drew ?_ | refine Below.drewN ?_ | refine Below.setRow ?_ (by simp <;> omega) _))

theorem u8_and7 (x : Int) (h0 : 0 ≤ x) (h1 : x ≤ 255) : bits .and .u8 x 7 = x % 8 := by
  obtain ⟨n, rfl⟩ := Int.eq_ofNat_of_zero_le h0
  have hn : n ≤ 255 := by omega
  have key : ∀ m : Fin 256, bits .and .u8 ((m.val : Nat) : Int) 7 = ((m.val : Nat) : Int) % 8 := by decide +kernel
  exact key ⟨n, by omega⟩
theorem hb_row {w w1 : World} {cs : Array Value} {t : TypeId} (hb : Below (w.alloc (.cells cs t)).heap.size (w.alloc (.cells cs t)) w1) : Row w1 w.heap.size cs t ∧ Below w.heap.size w w1 :=
  ⟨Below.row hb (Row.new w cs t) (by simp), ((Below.refl w.heap.size w).alloc (Nat.le_refl _) _).trans (hb.mono (by simp))⟩
theorem hb_row2 {w w1 : World} {cs : Array Value} {t : TypeId} {o : Obj} (hb : Below ((w.alloc (.cells cs t)).alloc o).heap.size ((w.alloc (.cells cs t)).alloc o) w1) : Row w1 w.heap.size cs t ∧ Below w.heap.size w w1 :=
  ⟨Below.row hb ((Row.new w cs t).alloc o) (by simp; omega), (((Below.refl w.heap.size w).alloc (Nat.le_refl _) _).alloc (by simp) _).trans (hb.mono (by simp; omega))⟩

set_option maxRecDepth 100000 in
set_option maxHeartbeats 8000000 in
theorem sums_any (op : Int) (w : World) (h0 : 0 ≤ op) (h1 : op < 64) : Calls Tryz.prog 153 #[.int .u8 op] w fun e w' => e = .returned (rowV (sumsOf op)) ∧ Below w.heap.size w w' := by
  have hb7 : bits .and .u8 op 7 = op % 8 := by rw [u8_and7 op h0 (by omega)]
  have hc : op % 8 = 0 ∨ op % 8 = 1 ∨ op % 8 = 2 ∨ op % 8 = 3 ∨ op % 8 = 4 ∨ op % 8 = 5 ∨ op = 6 ∨ op = 7 ∨ op = 14 ∨ op = 15 ∨ op = 22 ∨ op = 23 ∨ op = 30 ∨ op = 31 ∨ op = 38 ∨ op = 39 ∨ op = 46 ∨ op = 47 ∨ op = 54 ∨ op = 55 ∨ op = 62 ∨ op = 63 := by omega
  rcases hc with hc | hc | hc | hc | hc | hc | rfl | rfl | rfl | rfl | rfl | rfl | rfl | rfl | rfl | rfl | rfl | rfl | rfl | rfl | rfl | rfl
  · rw [hc] at hb7
    go_enter Tryz.func153, Tryz.ntmps153
    go_wp2_with (first | (go_at_call 199; refine (isaMod_any _ _ _ _).mono ?_; rintro e w1 ⟨rfl, hb⟩; (first | (with_reducible have hx := hb_row2 hb) | (have hx := hb_row hb)); obtain ⟨hr, hb1⟩ := hx; have HB := Lib.hid hb1; have rc := hr.cell; have rf := hr.frozen; have rl := hr.lt; clear hb hb1 hr) | (go_at_call 154; refine (isaRow_any _ _ _ _).mono ?_; rintro e w1 ⟨rfl, hb⟩; (first | (with_reducible have hx := hb_row2 hb) | (have hx := hb_row hb)); obtain ⟨hr, hb1⟩ := hx; have HB := Lib.hid hb1; have rc := hr.cell; have rf := hr.frozen; have rl := hr.lt; clear hb hb1 hr) | (go_at_call 155; refine (isaBad_any _).mono ?_; rintro e w1 ⟨rfl, hb⟩; (first | (with_reducible have hx := hb_row2 hb) | (have hx := hb_row hb)); obtain ⟨hr, hb1⟩ := hx; have HB := Lib.hid hb1; have rc := hr.cell; have rf := hr.frozen; have rl := hr.lt; clear hb hb1 hr))
    refine bodyPost_ret (v := rowV _) (by simp [results, Tryz.results153, go_sem, sumsOf, zRow, *]) rfl ⟨rfl, ?_⟩
    exact (((HB.out.setCell (Nat.le_refl _) _).setCell (Nat.le_refl _) _).setCell (Nat.le_refl _) _).setCell (Nat.le_refl _) _
  · rw [hc] at hb7
    go_enter Tryz.func153, Tryz.ntmps153
    go_wp2_with (first | (go_at_call 199; refine (isaMod_any _ _ _ _).mono ?_; rintro e w1 ⟨rfl, hb⟩; (first | (with_reducible have hx := hb_row2 hb) | (have hx := hb_row hb)); obtain ⟨hr, hb1⟩ := hx; have HB := Lib.hid hb1; have rc := hr.cell; have rf := hr.frozen; have rl := hr.lt; clear hb hb1 hr) | (go_at_call 154; refine (isaRow_any _ _ _ _).mono ?_; rintro e w1 ⟨rfl, hb⟩; (first | (with_reducible have hx := hb_row2 hb) | (have hx := hb_row hb)); obtain ⟨hr, hb1⟩ := hx; have HB := Lib.hid hb1; have rc := hr.cell; have rf := hr.frozen; have rl := hr.lt; clear hb hb1 hr) | (go_at_call 155; refine (isaBad_any _).mono ?_; rintro e w1 ⟨rfl, hb⟩; (first | (with_reducible have hx := hb_row2 hb) | (have hx := hb_row hb)); obtain ⟨hr, hb1⟩ := hx; have HB := Lib.hid hb1; have rc := hr.cell; have rf := hr.frozen; have rl := hr.lt; clear hb hb1 hr))
    refine bodyPost_ret (v := rowV _) (by simp [results, Tryz.results153, go_sem, sumsOf, zRow, *]) rfl ⟨rfl, ?_⟩
    exact (((HB.out.setCell (Nat.le_refl _) _).setCell (Nat.le_refl _) _).setCell (Nat.le_refl _) _).setCell (Nat.le_refl _) _
  · rw [hc] at hb7
    go_enter Tryz.func153, Tryz.ntmps153
    go_wp2_with (first | (go_at_call 199; refine (isaMod_any _ _ _ _).mono ?_; rintro e w1 ⟨rfl, hb⟩; (first | (with_reducible have hx := hb_row2 hb) | (have hx := hb_row hb)); obtain ⟨hr, hb1⟩ := hx; have HB := Lib.hid hb1; have rc := hr.cell; have rf := hr.frozen; have rl := hr.lt; clear hb hb1 hr) | (go_at_call 154; refine (isaRow_any _ _ _ _).mono ?_; rintro e w1 ⟨rfl, hb⟩; (first | (with_reducible have hx := hb_row2 hb) | (have hx := hb_row hb)); obtain ⟨hr, hb1⟩ := hx; have HB := Lib.hid hb1; have rc := hr.cell; have rf := hr.frozen; have rl := hr.lt; clear hb hb1 hr) | (go_at_call 155; refine (isaBad_any _).mono ?_; rintro e w1 ⟨rfl, hb⟩; (first | (with_reducible have hx := hb_row2 hb) | (have hx := hb_row hb)); obtain ⟨hr, hb1⟩ := hx; have HB := Lib.hid hb1; have rc := hr.cell; have rf := hr.frozen; have rl := hr.lt; clear hb hb1 hr))
    refine bodyPost_ret (v := rowV _) (by simp [results, Tryz.results153, go_sem, sumsOf, zRow, *]) rfl ⟨rfl, ?_⟩
    exact (((HB.out.setCell (Nat.le_refl _) _).setCell (Nat.le_refl _) _).setCell (Nat.le_refl _) _).setCell (Nat.le_refl _) _
  · rw [hc] at hb7
    go_enter Tryz.func153, Tryz.ntmps153
    go_wp2_with (first | (go_at_call 199; refine (isaMod_any _ _ _ _).mono ?_; rintro e w1 ⟨rfl, hb⟩; (first | (with_reducible have hx := hb_row2 hb) | (have hx := hb_row hb)); obtain ⟨hr, hb1⟩ := hx; have HB := Lib.hid hb1; have rc := hr.cell; have rf := hr.frozen; have rl := hr.lt; clear hb hb1 hr) | (go_at_call 154; refine (isaRow_any _ _ _ _).mono ?_; rintro e w1 ⟨rfl, hb⟩; (first | (with_reducible have hx := hb_row2 hb) | (have hx := hb_row hb)); obtain ⟨hr, hb1⟩ := hx; have HB := Lib.hid hb1; have rc := hr.cell; have rf := hr.frozen; have rl := hr.lt; clear hb hb1 hr) | (go_at_call 155; refine (isaBad_any _).mono ?_; rintro e w1 ⟨rfl, hb⟩; (first | (with_reducible have hx := hb_row2 hb) | (have hx := hb_row hb)); obtain ⟨hr, hb1⟩ := hx; have HB := Lib.hid hb1; have rc := hr.cell; have rf := hr.frozen; have rl := hr.lt; clear hb hb1 hr))
    refine bodyPost_ret (v := rowV _) (by simp [results, Tryz.results153, go_sem, sumsOf, zRow, *]) rfl ⟨rfl, ?_⟩
    exact (((HB.out.setCell (Nat.le_refl _) _).setCell (Nat.le_refl _) _).setCell (Nat.le_refl _) _).setCell (Nat.le_refl _) _
  · rw [hc] at hb7
    go_enter Tryz.func153, Tryz.ntmps153
    go_wp2_with (first | (go_at_call 199; refine (isaMod_any _ _ _ _).mono ?_; rintro e w1 ⟨rfl, hb⟩; (first | (with_reducible have hx := hb_row2 hb) | (have hx := hb_row hb)); obtain ⟨hr, hb1⟩ := hx; have HB := Lib.hid hb1; have rc := hr.cell; have rf := hr.frozen; have rl := hr.lt; clear hb hb1 hr) | (go_at_call 154; refine (isaRow_any _ _ _ _).mono ?_; rintro e w1 ⟨rfl, hb⟩; (first | (with_reducible have hx := hb_row2 hb) | (have hx := hb_row hb)); obtain ⟨hr, hb1⟩ := hx; have HB := Lib.hid hb1; have rc := hr.cell; have rf := hr.frozen; have rl := hr.lt; clear hb hb1 hr) | (go_at_call 155; refine (isaBad_any _).mono ?_; rintro e w1 ⟨rfl, hb⟩; (first | (with_reducible have hx := hb_row2 hb) | (have hx := hb_row hb)); obtain ⟨hr, hb1⟩ := hx; have HB := Lib.hid hb1; have rc := hr.cell; have rf := hr.frozen; have rl := hr.lt; clear hb hb1 hr))
    refine bodyPost_ret (v := rowV _) (by simp [results, Tryz.results153, go_sem, sumsOf, zRow, *]) rfl ⟨rfl, ?_⟩
    exact (((HB.out.setCell (Nat.le_refl _) _).setCell (Nat.le_refl _) _).setCell (Nat.le_refl _) _).setCell (Nat.le_refl _) _
  · rw [hc] at hb7
    go_enter Tryz.func153, Tryz.ntmps153
    go_wp2_with (first | (go_at_call 199; refine (isaMod_any _ _ _ _).mono ?_; rintro e w1 ⟨rfl, hb⟩; (first | (with_reducible have hx := hb_row2 hb) | (have hx := hb_row hb)); obtain ⟨hr, hb1⟩ := hx; have HB := Lib.hid hb1; have rc := hr.cell; have rf := hr.frozen; have rl := hr.lt; clear hb hb1 hr) | (go_at_call 154; refine (isaRow_any _ _ _ _).mono ?_; rintro e w1 ⟨rfl, hb⟩; (first | (with_reducible have hx := hb_row2 hb) | (have hx := hb_row hb)); obtain ⟨hr, hb1⟩ := hx; have HB := Lib.hid hb1; have rc := hr.cell; have rf := hr.frozen; have rl := hr.lt; clear hb hb1 hr) | (go_at_call 155; refine (isaBad_any _).mono ?_; rintro e w1 ⟨rfl, hb⟩; (first | (with_reducible have hx := hb_row2 hb) | (have hx := hb_row hb)); obtain ⟨hr, hb1⟩ := hx; have HB := Lib.hid hb1; have rc := hr.cell; have rf := hr.frozen; have rl := hr.lt; clear hb hb1 hr))
    refine bodyPost_ret (v := rowV _) (by simp [results, Tryz.results153, go_sem, sumsOf, zRow, *]) rfl ⟨rfl, ?_⟩
    exact (((HB.out.setCell (Nat.le_refl _) _).setCell (Nat.le_refl _) _).setCell (Nat.le_refl _) _).setCell (Nat.le_refl _) _
  · clear hb7 h0 h1
    have hk : bits .and .u8 6 7 = 6 := by decide
    go_enter Tryz.func153, Tryz.ntmps153
    go_wp2_with (first | (go_at_call 199; refine (isaMod_any _ _ _ _).mono ?_; rintro e w1 ⟨rfl, hb⟩; (first | (with_reducible have hx := hb_row2 hb) | (have hx := hb_row hb)); obtain ⟨hr, hb1⟩ := hx; have HB := Lib.hid hb1; have rc := hr.cell; have rf := hr.frozen; have rl := hr.lt; clear hb hb1 hr) | (go_at_call 154; refine (isaRow_any _ _ _ _).mono ?_; rintro e w1 ⟨rfl, hb⟩; (first | (with_reducible have hx := hb_row2 hb) | (have hx := hb_row hb)); obtain ⟨hr, hb1⟩ := hx; have HB := Lib.hid hb1; have rc := hr.cell; have rf := hr.frozen; have rl := hr.lt; clear hb hb1 hr) | (go_at_call 155; refine (isaBad_any _).mono ?_; rintro e w1 ⟨rfl, hb⟩; (first | (with_reducible have hx := hb_row2 hb) | (have hx := hb_row hb)); obtain ⟨hr, hb1⟩ := hx; have HB := Lib.hid hb1; have rc := hr.cell; have rf := hr.frozen; have rl := hr.lt; clear hb hb1 hr))
    refine bodyPost_ret (v := rowV _) (by simp [results, Tryz.results153, go_sem, sumsOf, zRow, *]) rfl ⟨rfl, ?_⟩
    exact (((HB.out.setCell (Nat.le_refl _) _).setCell (Nat.le_refl _) _).setCell (Nat.le_refl _) _).setCell (Nat.le_refl _) _
  · clear hb7 h0 h1
    have hk : bits .and .u8 7 7 = 7 := by decide
    go_enter Tryz.func153, Tryz.ntmps153
    go_wp2_with (first | (go_at_call 199; refine (isaMod_any _ _ _ _).mono ?_; rintro e w1 ⟨rfl, hb⟩; (first | (with_reducible have hx := hb_row2 hb) | (have hx := hb_row hb)); obtain ⟨hr, hb1⟩ := hx; have HB := Lib.hid hb1; have rc := hr.cell; have rf := hr.frozen; have rl := hr.lt; clear hb hb1 hr) | (go_at_call 154; refine (isaRow_any _ _ _ _).mono ?_; rintro e w1 ⟨rfl, hb⟩; (first | (with_reducible have hx := hb_row2 hb) | (have hx := hb_row hb)); obtain ⟨hr, hb1⟩ := hx; have HB := Lib.hid hb1; have rc := hr.cell; have rf := hr.frozen; have rl := hr.lt; clear hb hb1 hr) | (go_at_call 155; refine (isaBad_any _).mono ?_; rintro e w1 ⟨rfl, hb⟩; (first | (with_reducible have hx := hb_row2 hb) | (have hx := hb_row hb)); obtain ⟨hr, hb1⟩ := hx; have HB := Lib.hid hb1; have rc := hr.cell; have rf := hr.frozen; have rl := hr.lt; clear hb hb1 hr))
    refine bodyPost_ret (v := rowV _) (by simp [results, Tryz.results153, go_sem, sumsOf, zRow, *]) rfl ⟨rfl, ?_⟩
    exact (((HB.out.setCell (Nat.le_refl _) _).setCell (Nat.le_refl _) _).setCell (Nat.le_refl _) _).setCell (Nat.le_refl _) _
  · clear hb7 h0 h1
    have hk : bits .and .u8 14 7 = 6 := by decide
    go_enter Tryz.func153, Tryz.ntmps153
    go_wp2_with (first | (go_at_call 199; refine (isaMod_any _ _ _ _).mono ?_; rintro e w1 ⟨rfl, hb⟩; (first | (with_reducible have hx := hb_row2 hb) | (have hx := hb_row hb)); obtain ⟨hr, hb1⟩ := hx; have HB := Lib.hid hb1; have rc := hr.cell; have rf := hr.frozen; have rl := hr.lt; clear hb hb1 hr) | (go_at_call 154; refine (isaRow_any _ _ _ _).mono ?_; rintro e w1 ⟨rfl, hb⟩; (first | (with_reducible have hx := hb_row2 hb) | (have hx := hb_row hb)); obtain ⟨hr, hb1⟩ := hx; have HB := Lib.hid hb1; have rc := hr.cell; have rf := hr.frozen; have rl := hr.lt; clear hb hb1 hr) | (go_at_call 155; refine (isaBad_any _).mono ?_; rintro e w1 ⟨rfl, hb⟩; (first | (with_reducible have hx := hb_row2 hb) | (have hx := hb_row hb)); obtain ⟨hr, hb1⟩ := hx; have HB := Lib.hid hb1; have rc := hr.cell; have rf := hr.frozen; have rl := hr.lt; clear hb hb1 hr))
    refine bodyPost_ret (v := rowV _) (by simp [results, Tryz.results153, go_sem, sumsOf, zRow, *]) rfl ⟨rfl, ?_⟩
    exact (((HB.out.setCell (Nat.le_refl _) _).setCell (Nat.le_refl _) _).setCell (Nat.le_refl _) _).setCell (Nat.le_refl _) _
  · clear hb7 h0 h1
    have hk : bits .and .u8 15 7 = 7 := by decide
    go_enter Tryz.func153, Tryz.ntmps153
    go_wp2_with (first | (go_at_call 199; refine (isaMod_any _ _ _ _).mono ?_; rintro e w1 ⟨rfl, hb⟩; (first | (with_reducible have hx := hb_row2 hb) | (have hx := hb_row hb)); obtain ⟨hr, hb1⟩ := hx; have HB := Lib.hid hb1; have rc := hr.cell; have rf := hr.frozen; have rl := hr.lt; clear hb hb1 hr) | (go_at_call 154; refine (isaRow_any _ _ _ _).mono ?_; rintro e w1 ⟨rfl, hb⟩; (first | (with_reducible have hx := hb_row2 hb) | (have hx := hb_row hb)); obtain ⟨hr, hb1⟩ := hx; have HB := Lib.hid hb1; have rc := hr.cell; have rf := hr.frozen; have rl := hr.lt; clear hb hb1 hr) | (go_at_call 155; refine (isaBad_any _).mono ?_; rintro e w1 ⟨rfl, hb⟩; (first | (with_reducible have hx := hb_row2 hb) | (have hx := hb_row hb)); obtain ⟨hr, hb1⟩ := hx; have HB := Lib.hid hb1; have rc := hr.cell; have rf := hr.frozen; have rl := hr.lt; clear hb hb1 hr))
    refine bodyPost_ret (v := rowV _) (by simp [results, Tryz.results153, go_sem, sumsOf, zRow, *]) rfl ⟨rfl, ?_⟩
    exact (((HB.out.setCell (Nat.le_refl _) _).setCell (Nat.le_refl _) _).setCell (Nat.le_refl _) _).setCell (Nat.le_refl _) _
  · clear hb7 h0 h1
    have hk : bits .and .u8 22 7 = 6 := by decide
    go_enter Tryz.func153, Tryz.ntmps153
    go_wp2_with (first | (go_at_call 199; refine (isaMod_any _ _ _ _).mono ?_; rintro e w1 ⟨rfl, hb⟩; (first | (with_reducible have hx := hb_row2 hb) | (have hx := hb_row hb)); obtain ⟨hr, hb1⟩ := hx; have HB := Lib.hid hb1; have rc := hr.cell; have rf := hr.frozen; have rl := hr.lt; clear hb hb1 hr) | (go_at_call 154; refine (isaRow_any _ _ _ _).mono ?_; rintro e w1 ⟨rfl, hb⟩; (first | (with_reducible have hx := hb_row2 hb) | (have hx := hb_row hb)); obtain ⟨hr, hb1⟩ := hx; have HB := Lib.hid hb1; have rc := hr.cell; have rf := hr.frozen; have rl := hr.lt; clear hb hb1 hr) | (go_at_call 155; refine (isaBad_any _).mono ?_; rintro e w1 ⟨rfl, hb⟩; (first | (with_reducible have hx := hb_row2 hb) | (have hx := hb_row hb)); obtain ⟨hr, hb1⟩ := hx; have HB := Lib.hid hb1; have rc := hr.cell; have rf := hr.frozen; have rl := hr.lt; clear hb hb1 hr))
    refine bodyPost_ret (v := rowV _) (by simp [results, Tryz.results153, go_sem, sumsOf, zRow, *]) rfl ⟨rfl, ?_⟩
    exact (((HB.out.setCell (Nat.le_refl _) _).setCell (Nat.le_refl _) _).setCell (Nat.le_refl _) _).setCell (Nat.le_refl _) _
  · clear hb7 h0 h1
    have hk : bits .and .u8 23 7 = 7 := by decide
    go_enter Tryz.func153, Tryz.ntmps153
    go_wp2_with (first | (go_at_call 199; refine (isaMod_any _ _ _ _).mono ?_; rintro e w1 ⟨rfl, hb⟩; (first | (with_reducible have hx := hb_row2 hb) | (have hx := hb_row hb)); obtain ⟨hr, hb1⟩ := hx; have HB := Lib.hid hb1; have rc := hr.cell; have rf := hr.frozen; have rl := hr.lt; clear hb hb1 hr) | (go_at_call 154; refine (isaRow_any _ _ _ _).mono ?_; rintro e w1 ⟨rfl, hb⟩; (first | (with_reducible have hx := hb_row2 hb) | (have hx := hb_row hb)); obtain ⟨hr, hb1⟩ := hx; have HB := Lib.hid hb1; have rc := hr.cell; have rf := hr.frozen; have rl := hr.lt; clear hb hb1 hr) | (go_at_call 155; refine (isaBad_any _).mono ?_; rintro e w1 ⟨rfl, hb⟩; (first | (with_reducible have hx := hb_row2 hb) | (have hx := hb_row hb)); obtain ⟨hr, hb1⟩ := hx; have HB := Lib.hid hb1; have rc := hr.cell; have rf := hr.frozen; have rl := hr.lt; clear hb hb1 hr))
    refine bodyPost_ret (v := rowV _) (by simp [results, Tryz.results153, go_sem, sumsOf, zRow, *]) rfl ⟨rfl, ?_⟩
    exact (((HB.out.setCell (Nat.le_refl _) _).setCell (Nat.le_refl _) _).setCell (Nat.le_refl _) _).setCell (Nat.le_refl _) _
  · clear hb7 h0 h1
    have hk : bits .and .u8 30 7 = 6 := by decide
    go_enter Tryz.func153, Tryz.ntmps153
    go_wp2_with (first | (go_at_call 199; refine (isaMod_any _ _ _ _).mono ?_; rintro e w1 ⟨rfl, hb⟩; (first | (with_reducible have hx := hb_row2 hb) | (have hx := hb_row hb)); obtain ⟨hr, hb1⟩ := hx; have HB := Lib.hid hb1; have rc := hr.cell; have rf := hr.frozen; have rl := hr.lt; clear hb hb1 hr) | (go_at_call 154; refine (isaRow_any _ _ _ _).mono ?_; rintro e w1 ⟨rfl, hb⟩; (first | (with_reducible have hx := hb_row2 hb) | (have hx := hb_row hb)); obtain ⟨hr, hb1⟩ := hx; have HB := Lib.hid hb1; have rc := hr.cell; have rf := hr.frozen; have rl := hr.lt; clear hb hb1 hr) | (go_at_call 155; refine (isaBad_any _).mono ?_; rintro e w1 ⟨rfl, hb⟩; (first | (with_reducible have hx := hb_row2 hb) | (have hx := hb_row hb)); obtain ⟨hr, hb1⟩ := hx; have HB := Lib.hid hb1; have rc := hr.cell; have rf := hr.frozen; have rl := hr.lt; clear hb hb1 hr))
    refine bodyPost_ret (v := rowV _) (by simp [results, Tryz.results153, go_sem, sumsOf, zRow, *]) rfl ⟨rfl, ?_⟩
    exact (((HB.out.setCell (Nat.le_refl _) _).setCell (Nat.le_refl _) _).setCell (Nat.le_refl _) _).setCell (Nat.le_refl _) _
  · clear hb7 h0 h1
    have hk : bits .and .u8 31 7 = 7 := by decide
    go_enter Tryz.func153, Tryz.ntmps153
    go_wp2_with (first | (go_at_call 199; refine (isaMod_any _ _ _ _).mono ?_; rintro e w1 ⟨rfl, hb⟩; (first | (with_reducible have hx := hb_row2 hb) | (have hx := hb_row hb)); obtain ⟨hr, hb1⟩ := hx; have HB := Lib.hid hb1; have rc := hr.cell; have rf := hr.frozen; have rl := hr.lt; clear hb hb1 hr) | (go_at_call 154; refine (isaRow_any _ _ _ _).mono ?_; rintro e w1 ⟨rfl, hb⟩; (first | (with_reducible have hx := hb_row2 hb) | (have hx := hb_row hb)); obtain ⟨hr, hb1⟩ := hx; have HB := Lib.hid hb1; have rc := hr.cell; have rf := hr.frozen; have rl := hr.lt; clear hb hb1 hr) | (go_at_call 155; refine (isaBad_any _).mono ?_; rintro e w1 ⟨rfl, hb⟩; (first | (with_reducible have hx := hb_row2 hb) | (have hx := hb_row hb)); obtain ⟨hr, hb1⟩ := hx; have HB := Lib.hid hb1; have rc := hr.cell; have rf := hr.frozen; have rl := hr.lt; clear hb hb1 hr))
    refine bodyPost_ret (v := rowV _) (by simp [results, Tryz.results153, go_sem, sumsOf, zRow, *]) rfl ⟨rfl, ?_⟩
    exact (((HB.out.setCell (Nat.le_refl _) _).setCell (Nat.le_refl _) _).setCell (Nat.le_refl _) _).setCell (Nat.le_refl _) _
  · clear hb7 h0 h1
    have hk : bits .and .u8 38 7 = 6 := by decide
    go_enter Tryz.func153, Tryz.ntmps153
    go_wp2_with (first | (go_at_call 199; refine (isaMod_any _ _ _ _).mono ?_; rintro e w1 ⟨rfl, hb⟩; (first | (with_reducible have hx := hb_row2 hb) | (have hx := hb_row hb)); obtain ⟨hr, hb1⟩ := hx; have HB := Lib.hid hb1; have rc := hr.cell; have rf := hr.frozen; have rl := hr.lt; clear hb hb1 hr) | (go_at_call 154; refine (isaRow_any _ _ _ _).mono ?_; rintro e w1 ⟨rfl, hb⟩; (first | (with_reducible have hx := hb_row2 hb) | (have hx := hb_row hb)); obtain ⟨hr, hb1⟩ := hx; have HB := Lib.hid hb1; have rc := hr.cell; have rf := hr.frozen; have rl := hr.lt; clear hb hb1 hr) | (go_at_call 155; refine (isaBad_any _).mono ?_; rintro e w1 ⟨rfl, hb⟩; (first | (with_reducible have hx := hb_row2 hb) | (have hx := hb_row hb)); obtain ⟨hr, hb1⟩ := hx; have HB := Lib.hid hb1; have rc := hr.cell; have rf := hr.frozen; have rl := hr.lt; clear hb hb1 hr))
    refine bodyPost_ret (v := rowV _) (by simp [results, Tryz.results153, go_sem, sumsOf, zRow, *]) rfl ⟨rfl, ?_⟩
    exact (((HB.out.setCell (Nat.le_refl _) _).setCell (Nat.le_refl _) _).setCell (Nat.le_refl _) _).setCell (Nat.le_refl _) _
  · clear hb7 h0 h1
    have hk : bits .and .u8 39 7 = 7 := by decide
    go_enter Tryz.func153, Tryz.ntmps153
    go_wp2_with (first | (go_at_call 199; refine (isaMod_any _ _ _ _).mono ?_; rintro e w1 ⟨rfl, hb⟩; (first | (with_reducible have hx := hb_row2 hb) | (have hx := hb_row hb)); obtain ⟨hr, hb1⟩ := hx; have HB := Lib.hid hb1; have rc := hr.cell; have rf := hr.frozen; have rl := hr.lt; clear hb hb1 hr) | (go_at_call 154; refine (isaRow_any _ _ _ _).mono ?_; rintro e w1 ⟨rfl, hb⟩; (first | (with_reducible have hx := hb_row2 hb) | (have hx := hb_row hb)); obtain ⟨hr, hb1⟩ := hx; have HB := Lib.hid hb1; have rc := hr.cell; have rf := hr.frozen; have rl := hr.lt; clear hb hb1 hr) | (go_at_call 155; refine (isaBad_any _).mono ?_; rintro e w1 ⟨rfl, hb⟩; (first | (with_reducible have hx := hb_row2 hb) | (have hx := hb_row hb)); obtain ⟨hr, hb1⟩ := hx; have HB := Lib.hid hb1; have rc := hr.cell; have rf := hr.frozen; have rl := hr.lt; clear hb hb1 hr))
    refine bodyPost_ret (v := rowV _) (by simp [results, Tryz.results153, go_sem, sumsOf, zRow, *]) rfl ⟨rfl, ?_⟩
    exact (((HB.out.setCell (Nat.le_refl _) _).setCell (Nat.le_refl _) _).setCell (Nat.le_refl _) _).setCell (Nat.le_refl _) _
  · clear hb7 h0 h1
    have hk : bits .and .u8 46 7 = 6 := by decide
    go_enter Tryz.func153, Tryz.ntmps153
    go_wp2_with (first | (go_at_call 199; refine (isaMod_any _ _ _ _).mono ?_; rintro e w1 ⟨rfl, hb⟩; (first | (with_reducible have hx := hb_row2 hb) | (have hx := hb_row hb)); obtain ⟨hr, hb1⟩ := hx; have HB := Lib.hid hb1; have rc := hr.cell; have rf := hr.frozen; have rl := hr.lt; clear hb hb1 hr) | (go_at_call 154; refine (isaRow_any _ _ _ _).mono ?_; rintro e w1 ⟨rfl, hb⟩; (first | (with_reducible have hx := hb_row2 hb) | (have hx := hb_row hb)); obtain ⟨hr, hb1⟩ := hx; have HB := Lib.hid hb1; have rc := hr.cell; have rf := hr.frozen; have rl := hr.lt; clear hb hb1 hr) | (go_at_call 155; refine (isaBad_any _).mono ?_; rintro e w1 ⟨rfl, hb⟩; (first | (with_reducible have hx := hb_row2 hb) | (have hx := hb_row hb)); obtain ⟨hr, hb1⟩ := hx; have HB := Lib.hid hb1; have rc := hr.cell; have rf := hr.frozen; have rl := hr.lt; clear hb hb1 hr))
    refine bodyPost_ret (v := rowV _) (by simp [results, Tryz.results153, go_sem, sumsOf, zRow, *]) rfl ⟨rfl, ?_⟩
    exact (((HB.out.setCell (Nat.le_refl _) _).setCell (Nat.le_refl _) _).setCell (Nat.le_refl _) _).setCell (Nat.le_refl _) _
  · clear hb7 h0 h1
    have hk : bits .and .u8 47 7 = 7 := by decide
    go_enter Tryz.func153, Tryz.ntmps153
    go_wp2_with (first | (go_at_call 199; refine (isaMod_any _ _ _ _).mono ?_; rintro e w1 ⟨rfl, hb⟩; (first | (with_reducible have hx := hb_row2 hb) | (have hx := hb_row hb)); obtain ⟨hr, hb1⟩ := hx; have HB := Lib.hid hb1; have rc := hr.cell; have rf := hr.frozen; have rl := hr.lt; clear hb hb1 hr) | (go_at_call 154; refine (isaRow_any _ _ _ _).mono ?_; rintro e w1 ⟨rfl, hb⟩; (first | (with_reducible have hx := hb_row2 hb) | (have hx := hb_row hb)); obtain ⟨hr, hb1⟩ := hx; have HB := Lib.hid hb1; have rc := hr.cell; have rf := hr.frozen; have rl := hr.lt; clear hb hb1 hr) | (go_at_call 155; refine (isaBad_any _).mono ?_; rintro e w1 ⟨rfl, hb⟩; (first | (with_reducible have hx := hb_row2 hb) | (have hx := hb_row hb)); obtain ⟨hr, hb1⟩ := hx; have HB := Lib.hid hb1; have rc := hr.cell; have rf := hr.frozen; have rl := hr.lt; clear hb hb1 hr))
    refine bodyPost_ret (v := rowV _) (by simp [results, Tryz.results153, go_sem, sumsOf, zRow, *]) rfl ⟨rfl, ?_⟩
    exact (((HB.out.setCell (Nat.le_refl _) _).setCell (Nat.le_refl _) _).setCell (Nat.le_refl _) _).setCell (Nat.le_refl _) _
  · clear hb7 h0 h1
    have hk : bits .and .u8 54 7 = 6 := by decide
    go_enter Tryz.func153, Tryz.ntmps153
    go_wp2_with (first | (go_at_call 199; refine (isaMod_any _ _ _ _).mono ?_; rintro e w1 ⟨rfl, hb⟩; (first | (with_reducible have hx := hb_row2 hb) | (have hx := hb_row hb)); obtain ⟨hr, hb1⟩ := hx; have HB := Lib.hid hb1; have rc := hr.cell; have rf := hr.frozen; have rl := hr.lt; clear hb hb1 hr) | (go_at_call 154; refine (isaRow_any _ _ _ _).mono ?_; rintro e w1 ⟨rfl, hb⟩; (first | (with_reducible have hx := hb_row2 hb) | (have hx := hb_row hb)); obtain ⟨hr, hb1⟩ := hx; have HB := Lib.hid hb1; have rc := hr.cell; have rf := hr.frozen; have rl := hr.lt; clear hb hb1 hr) | (go_at_call 155; refine (isaBad_any _).mono ?_; rintro e w1 ⟨rfl, hb⟩; (first | (with_reducible have hx := hb_row2 hb) | (have hx := hb_row hb)); obtain ⟨hr, hb1⟩ := hx; have HB := Lib.hid hb1; have rc := hr.cell; have rf := hr.frozen; have rl := hr.lt; clear hb hb1 hr))
    refine bodyPost_ret (v := rowV _) (by simp [results, Tryz.results153, go_sem, sumsOf, zRow, *]) rfl ⟨rfl, ?_⟩
    exact (((HB.out.setCell (Nat.le_refl _) _).setCell (Nat.le_refl _) _).setCell (Nat.le_refl _) _).setCell (Nat.le_refl _) _
  · clear hb7 h0 h1
    have hk : bits .and .u8 55 7 = 7 := by decide
    go_enter Tryz.func153, Tryz.ntmps153
    go_wp2_with (first | (go_at_call 199; refine (isaMod_any _ _ _ _).mono ?_; rintro e w1 ⟨rfl, hb⟩; (first | (with_reducible have hx := hb_row2 hb) | (have hx := hb_row hb)); obtain ⟨hr, hb1⟩ := hx; have HB := Lib.hid hb1; have rc := hr.cell; have rf := hr.frozen; have rl := hr.lt; clear hb hb1 hr) | (go_at_call 154; refine (isaRow_any _ _ _ _).mono ?_; rintro e w1 ⟨rfl, hb⟩; (first | (with_reducible have hx := hb_row2 hb) | (have hx := hb_row hb)); obtain ⟨hr, hb1⟩ := hx; have HB := Lib.hid hb1; have rc := hr.cell; have rf := hr.frozen; have rl := hr.lt; clear hb hb1 hr) | (go_at_call 155; refine (isaBad_any _).mono ?_; rintro e w1 ⟨rfl, hb⟩; (first | (with_reducible have hx := hb_row2 hb) | (have hx := hb_row hb)); obtain ⟨hr, hb1⟩ := hx; have HB := Lib.hid hb1; have rc := hr.cell; have rf := hr.frozen; have rl := hr.lt; clear hb hb1 hr))
    refine bodyPost_ret (v := rowV _) (by simp [results, Tryz.results153, go_sem, sumsOf, zRow, *]) rfl ⟨rfl, ?_⟩
    exact (((HB.out.setCell (Nat.le_refl _) _).setCell (Nat.le_refl _) _).setCell (Nat.le_refl _) _).setCell (Nat.le_refl _) _
  · clear hb7 h0 h1
    have hk : bits .and .u8 62 7 = 6 := by decide
    go_enter Tryz.func153, Tryz.ntmps153
    go_wp2_with (first | (go_at_call 199; refine (isaMod_any _ _ _ _).mono ?_; rintro e w1 ⟨rfl, hb⟩; (first | (with_reducible have hx := hb_row2 hb) | (have hx := hb_row hb)); obtain ⟨hr, hb1⟩ := hx; have HB := Lib.hid hb1; have rc := hr.cell; have rf := hr.frozen; have rl := hr.lt; clear hb hb1 hr) | (go_at_call 154; refine (isaRow_any _ _ _ _).mono ?_; rintro e w1 ⟨rfl, hb⟩; (first | (with_reducible have hx := hb_row2 hb) | (have hx := hb_row hb)); obtain ⟨hr, hb1⟩ := hx; have HB := Lib.hid hb1; have rc := hr.cell; have rf := hr.frozen; have rl := hr.lt; clear hb hb1 hr) | (go_at_call 155; refine (isaBad_any _).mono ?_; rintro e w1 ⟨rfl, hb⟩; (first | (with_reducible have hx := hb_row2 hb) | (have hx := hb_row hb)); obtain ⟨hr, hb1⟩ := hx; have HB := Lib.hid hb1; have rc := hr.cell; have rf := hr.frozen; have rl := hr.lt; clear hb hb1 hr))
    refine bodyPost_ret (v := rowV _) (by simp [results, Tryz.results153, go_sem, sumsOf, zRow, *]) rfl ⟨rfl, ?_⟩
    exact (((HB.out.setCell (Nat.le_refl _) _).setCell (Nat.le_refl _) _).setCell (Nat.le_refl _) _).setCell (Nat.le_refl _) _
  · clear hb7 h0 h1
    have hk : bits .and .u8 63 7 = 7 := by decide
    go_enter Tryz.func153, Tryz.ntmps153
    go_wp2_with (first | (go_at_call 199; refine (isaMod_any _ _ _ _).mono ?_; rintro e w1 ⟨rfl, hb⟩; (first | (with_reducible have hx := hb_row2 hb) | (have hx := hb_row hb)); obtain ⟨hr, hb1⟩ := hx; have HB := Lib.hid hb1; have rc := hr.cell; have rf := hr.frozen; have rl := hr.lt; clear hb hb1 hr) | (go_at_call 154; refine (isaRow_any _ _ _ _).mono ?_; rintro e w1 ⟨rfl, hb⟩; (first | (with_reducible have hx := hb_row2 hb) | (have hx := hb_row hb)); obtain ⟨hr, hb1⟩ := hx; have HB := Lib.hid hb1; have rc := hr.cell; have rf := hr.frozen; have rl := hr.lt; clear hb hb1 hr) | (go_at_call 155; refine (isaBad_any _).mono ?_; rintro e w1 ⟨rfl, hb⟩; (first | (with_reducible have hx := hb_row2 hb) | (have hx := hb_row hb)); obtain ⟨hr, hb1⟩ := hx; have HB := Lib.hid hb1; have rc := hr.cell; have rf := hr.frozen; have rl := hr.lt; clear hb hb1 hr))
    refine bodyPost_ret (v := rowV _) (by simp [results, Tryz.results153, go_sem, sumsOf, zRow, *]) rfl ⟨rfl, ?_⟩
    exact (((HB.out.setCell (Nat.le_refl _) _).setCell (Nat.le_refl _) _).setCell (Nat.le_refl _) _).setCell (Nat.le_refl _) _
end Go.Proofs.YtcglkefaopgjeaaGreatDoor
