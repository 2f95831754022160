/- flow.Holds beyond its names; on; loop; near by a jump; Do of what jumps. -/
import Derived.Test.YtcglkefaopgjeaaGreatDoorE0
import Derived.Test.YtcglkefaopgjeaaGreatDoorD4
namespace Go.Proofs.YtcglkefaopgjeaaGreatDoor
set_option linter.unusedSimpArgs false
set_option linter.unusedVariables false
open Go.RowKit

set_option maxRecDepth 100000 in
set_option maxHeartbeats 1600000 in
theorem holds_out (name f : Int) (w : World) (h : name < 17 ∨ 32 < name) (hn0 : -9223372036854775808 ≤ name) (hn1 : name ≤ 9223372036854775807) : Calls Tryz.prog 125 #[.int .i64 name, .int .u16 f] w fun e w' => e = .returned (.bool false) ∧ Below w.heap.size w w' := by
  have H := Lib.hid h
  have H0 := Lib.hid hn0
  have H1 := Lib.hid hn1
  have tt : ∀ k : Int, 0 ≤ k → k ≤ 7 → (wrap64 (name - 17) / 2 == k) = false := by
    intro k hk0 hk1
    rw [beq_eq_false_iff_ne]
    unfold wrap64
    omega
  have t0 := tt 0 (by decide) (by decide)
  have t1 := tt 1 (by decide) (by decide)
  have t2 := tt 2 (by decide) (by decide)
  have t3 := tt 3 (by decide) (by decide)
  have t4 := tt 4 (by decide) (by decide)
  have t5 := tt 5 (by decide) (by decide)
  have t6 := tt 6 (by decide) (by decide)
  have t7 := tt 7 (by decide) (by decide)
  clear h hn0 hn1 tt
  go_enter Tryz.func125, Tryz.ntmps125
  go_wp2_with (go_at_call 178; refine (flagIs_any _ _ f _ (by simp [go_sem])).mono ?_; rintro e w' ⟨rfl, rfl⟩)
  go_ret
  exact ⟨rfl, by (repeat (first | exact Below.refl _ _ | assumption | refine Below.setCell ?_ (by simp) _ | refine Below.alloc ?_ (by simp <;> omega) _ | refine Below.drew ?_ | refine Below.drewN ?_ | refine Below.setRow ?_ (by simp <;> omega) _))⟩

theorem holdsB_out (name f : Int) (h : name < 17 ∨ 32 < name) : holdsB name f = false := by
  unfold holdsB
  repeat rw [if_neg (by omega)]
theorem odd_no (x : Bool) : (x != (bits .and .i64 0 1 == 1)) = x := by
  have : (bits .and .i64 0 1 == 1) = false := by decide
  rw [this]; cases x <;> rfl
theorem holds_any (name f : Int) (w : World) (hn0 : -9223372036854775808 ≤ name) (hn1 : name ≤ 9223372036854775807) : Calls Tryz.prog 125 #[.int .i64 name, .int .u16 f] w fun e w' => e = .returned (.bool (holdsB name f)) ∧ Below w.heap.size w w' := by
  by_cases h : name < 17 ∨ 32 < name
  · rw [holdsB_out name f h]
    exact holds_out name f w h hn0 hn1
  · have hc : name = 17 ∨ name = 18 ∨ name = 19 ∨ name = 20 ∨ name = 21 ∨ name = 22 ∨ name = 23 ∨ name = 24 ∨ name = 25 ∨ name = 26 ∨ name = 27 ∨ name = 28 ∨ name = 29 ∨ name = 30 ∨ name = 31 ∨ name = 32 := by omega
    clear h hn0 hn1
    have key : ∀ (k : Int) (R : Bool), (Calls Tryz.prog 125 #[.int .i64 k, .int .u16 f] w fun e w' => e = .returned (.bool R) ∧ Below w.heap.size w w') → R = holdsB k f → (Calls Tryz.prog 125 #[.int .i64 k, .int .u16 f] w fun e w' => e = .returned (.bool (holdsB k f)) ∧ Below w.heap.size w w') := fun k R h e => e ▸ h
    rcases hc with rfl | rfl | rfl | rfl | rfl | rfl | rfl | rfl | rfl | rfl | rfl | rfl | rfl | rfl | rfl | rfl
    · exact key _ _ (holds_17 17 f w (by decide) (by decide)) (by rw [show (bits .and .i64 (17 - 17) 1 == 1) = false from by decide]; simp [holdsB])
    · exact key _ _ (holds_17 18 f w (by decide) (by decide)) (by rw [show (bits .and .i64 (18 - 17) 1 == 1) = true from by decide]; simp [holdsB])
    · exact key _ _ (holds_19 19 f w (by decide) (by decide)) (by rw [show (bits .and .i64 (19 - 17) 1 == 1) = false from by decide]; simp [holdsB])
    · exact key _ _ (holds_19 20 f w (by decide) (by decide)) (by rw [show (bits .and .i64 (20 - 17) 1 == 1) = true from by decide]; simp [holdsB])
    · exact key _ _ (holds_21 21 f w (by decide) (by decide)) (by rw [show (bits .and .i64 (21 - 17) 1 == 1) = false from by decide]; simp [holdsB])
    · exact key _ _ (holds_21 22 f w (by decide) (by decide)) (by rw [show (bits .and .i64 (22 - 17) 1 == 1) = true from by decide]; simp [holdsB])
    · exact key _ _ (holds_23 23 f w (by decide) (by decide)) (by rw [show (bits .and .i64 (23 - 17) 1 == 1) = false from by decide]; simp [holdsB])
    · exact key _ _ (holds_23 24 f w (by decide) (by decide)) (by rw [show (bits .and .i64 (24 - 17) 1 == 1) = true from by decide]; simp [holdsB])
    · exact key _ _ (holds_25 25 f w (by decide) (by decide)) (by rw [show (bits .and .i64 (25 - 17) 1 == 1) = false from by decide]; simp [holdsB])
    · exact key _ _ (holds_25 26 f w (by decide) (by decide)) (by rw [show (bits .and .i64 (26 - 17) 1 == 1) = true from by decide]; simp [holdsB])
    · exact key _ _ (holds_27 27 f w (by decide) (by decide)) (by rw [show (bits .and .i64 (27 - 17) 1 == 1) = false from by decide]; simp [holdsB])
    · exact key _ _ (holds_27 28 f w (by decide) (by decide)) (by rw [show (bits .and .i64 (28 - 17) 1 == 1) = true from by decide]; simp [holdsB])
    · exact key _ _ (holds_29 29 f w (by decide) (by decide)) (by rw [show (bits .and .i64 (29 - 17) 1 == 1) = false from by decide]; simp [holdsB])
    · exact key _ _ (holds_29 30 f w (by decide) (by decide)) (by rw [show (bits .and .i64 (30 - 17) 1 == 1) = true from by decide]; simp [holdsB])
    · exact key _ _ (holds_31 31 f w (by decide) (by decide)) (by rw [show (bits .and .i64 (31 - 17) 1 == 1) = false from by decide]; simp [holdsB])
    · exact key _ _ (holds_31 32 f w (by decide) (by decide)) (by rw [show (bits .and .i64 (32 - 17) 1 == 1) = true from by decide]; simp [holdsB])

set_option maxHeartbeats 400000 in
theorem is_jg (w : World) : Calls Tryz.prog 73 #[.int .i64 32] w fun e w' => e = .returned (.bool true) ∧ w = w' := by
  go_enter Tryz.func73, Tryz.ntmps73
  go_wp2_with fail
  go_ret
  exact ⟨rfl, rfl⟩
set_option maxHeartbeats 400000 in
theorem is_mov (w : World) : Calls Tryz.prog 73 #[.int .i64 35] w fun e w' => e = .returned (.bool false) ∧ w = w' := by
  go_enter Tryz.func73, Tryz.ntmps73
  go_wp2_with fail
  go_ret
  exact ⟨rfl, rfl⟩

/-- From one state of a machine's memory to another. -/
structure Acc (C : Phys) (lv : Value) (w : World) (lv1 : Value) (w1 : World) : Prop where
  f : Fr (C.own lv) w w1
  k : ∀ k, lv1.ownBlock = some k → lv.ownBlock = some k ∨ w.heap.size ≤ k
theorem Acc.refl (C : Phys) (lv : Value) (w : World) : Acc C lv w lv w := ⟨Fr.refl _ _, fun _ h => Or.inl h⟩
theorem Acc.below {C : Phys} {lv lv1 : Value} {w w1 w2 : World} (h : Acc C lv w lv1 w1) (hb : Below w1.heap.size w1 w2) : Acc C lv w lv1 w2 := ⟨h.f.trans (Fr.of_below hb), h.k⟩
theorem Acc.alloc {C : Phys} {lv lv1 : Value} {w w1 : World} (h : Acc C lv w lv1 w1) (o : Obj) : Acc C lv w lv1 (w1.alloc o) := ⟨h.f.alloc o, h.k⟩
theorem Acc.drew {C : Phys} {lv lv1 : Value} {w w1 : World} (h : Acc C lv w lv1 w1) : Acc C lv w lv1 w1.drew := ⟨h.f.drew, h.k⟩
theorem Acc.drewN {C : Phys} {lv lv1 : Value} {w w1 : World} {n : Nat} (h : Acc C lv w lv1 w1) : Acc C lv w lv1 (w1.drewN n) := ⟨h.f.drewN, h.k⟩
theorem Acc.setB {C : Phys} {lv lv1 : Value} {w w1 : World} (h : Acc C lv w lv1 w1) (j : Nat) (v : Value) : Acc C lv w lv1 (w1.setCell ⟨C.b, j, none⟩ v) := ⟨h.f.setCell (Or.inl rfl) v, h.k⟩
theorem Acc.putR {C : Phys} {lv lv1 : Value} {w w1 : World} (h : Acc C lv w lv1 w1) (r : Regs) : Acc C lv w lv1 (Go.Proofs.YtcglkefaopgjeaaGreatDoor.putR w1 C.b r) := ⟨Fr.putR h.f (Or.inl rfl) r, h.k⟩
theorem Acc.trans {C : Phys} {lv lv1 lv2 : Value} {w w1 w2 : World} (h : Acc C lv w lv1 w1) (g : Acc C lv1 w1 lv2 w2) : Acc C lv w lv2 w2 := by
  refine ⟨⟨g.f.os.trans h.f.os, g.f.tape.trans h.f.tape, g.f.output.trans h.f.output, Nat.le_trans h.f.size g.f.size, ?_⟩, ?_⟩
  · intro k hk1 ho
    refine (g.f.block k (Nat.lt_of_lt_of_le hk1 h.f.size) ?_).trans (h.f.block k hk1 ho)
    rintro (e | e | e | e | e)
    · exact ho (Or.inl e)
    · exact ho (Or.inr (Or.inl e))
    · exact ho (Or.inr (Or.inr (Or.inl e)))
    · exact ho (Or.inr (Or.inr (Or.inr (Or.inl e))))
    · rcases h.k k e with e | e
      · exact ho (Or.inr (Or.inr (Or.inr (Or.inr e))))
      · omega
  · intro k hk2
    rcases g.k k hk2 with e | e
    · exact h.k k e
    · exact Or.inr (Nat.le_trans h.f.size e)
theorem After.mk {C : Phys} {lv lv1 : Value} {w w1 : World} {m : Mach} (h : Own w1 C lv1 m) (g : Acc C lv w lv1 w1) : After C lv w m w1 := ⟨lv1, h, g.f, g.k⟩

def Mach.jump (m : Mach) (n : Int) : Mach := { m with r := { m.r with ip := IntKind.u16.wrap (m.r.ip + n) } }

set_option maxHeartbeats 400000 in
theorem on_any (w : World) (C : Phys) (lv : Value) (m : Mach) (h : Own w C lv m) (n : Int) :
    Calls Tryz.prog 126 #[.pointer (some ⟨C.b, 0, none⟩), .int .u16 n] w fun e w' => e = .returned (.tuple #[]) ∧ After C lv w (m.jump n) w' := by
  have HO0 := Lib.hid h; have HA0 := Lib.hid (Acc.refl C lv w); have sc := HO0.out.sees.c; have sf := HO0.out.sees.f; have sr := HO0.out.sees.r; have ss := HO0.out.sees.s; have sl := HO0.out.sees.l; clear h
  go_enter Tryz.func126, Tryz.ntmps126
  go_wp2_with fail
  go_end0
  exact ⟨rfl, After.mk (HO0.out.setIP _ (wrap16_lo _) (wrap16_hi _)) (HA0.out.setB 24 _)⟩
end Go.Proofs.YtcglkefaopgjeaaGreatDoor
