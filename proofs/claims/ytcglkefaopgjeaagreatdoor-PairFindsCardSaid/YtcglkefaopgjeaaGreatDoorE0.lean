/- Contracts of package flow: Holds, Is. -/
import Derived.Test.YtcglkefaopgjeaaGreatDoorB4
namespace Go.Proofs.YtcglkefaopgjeaaGreatDoor
set_option linter.unusedSimpArgs false
set_option linter.unusedVariables false
open Go.RowKit

/-- Is a flag set? -/
def fl (f b : Int) : Bool := bits .and .u16 f b != 0
def less (f : Int) : Bool := fl f 128 != fl f 2048
/-- Which condition holds. -/
def holdsB (name f : Int) : Bool :=
  if name = 17 then fl f 2048 else if name = 18 then !fl f 2048 else if name = 19 then fl f 1 else if name = 20 then !fl f 1
  else if name = 21 then fl f 64 else if name = 22 then !fl f 64 else if name = 23 then fl f 1 || fl f 64 else if name = 24 then !(fl f 1 || fl f 64)
  else if name = 25 then fl f 128 else if name = 26 then !fl f 128 else if name = 27 then fl f 4 else if name = 28 then !fl f 4
  else if name = 29 then less f else if name = 30 then !less f else if name = 31 then less f || fl f 64 else if name = 32 then !(less f || fl f 64) else false

set_option maxHeartbeats 400000 in
theorem flagIs_any (w : World) (k : Nat) (f b : Int) (hc : w.cell? ⟨k, 0, none⟩ = some (.int .u16 f)) :
    Calls Tryz.prog 178 #[.int .u16 b, .pointer (some ⟨k, 0, none⟩)] w fun e w' => e = .returned (.bool (fl f b)) ∧ w = w' := by
  go_enter Tryz.func178, Tryz.ntmps178
  go_wp2_with fail
  go_ret
  exact ⟨rfl, rfl⟩

set_option maxRecDepth 100000 in
set_option maxHeartbeats 1600000 in
theorem holds_17 (name f : Int) (w : World) (h0 : 17 ≤ name) (h1 : name ≤ 18) : Calls Tryz.prog 125 #[.int .i64 name, .int .u16 f] w fun e w' => e = .returned (.bool (fl f 2048 != (bits .and .i64 (name - 17) 1 == 1))) ∧ Below w.heap.size w w' := by
  have hd : (name - 17) / 2 = 0 := by omega
  have HD := Lib.hid hd
  clear hd
  have t0 : ((name - 17) / 2 == 0) = true := by rw [HD.out]; rfl
  go_enter Tryz.func125, Tryz.ntmps125
  go_wp2_with (go_at_call 178; refine (flagIs_any _ _ f _ (by simp [go_sem])).mono ?_; rintro e w' ⟨rfl, rfl⟩)
  all_goals
    go_ret
    exact ⟨by (simp_all [less, bne] <;> (cases h1 : fl f 128 <;> cases h2 : fl f 2048 <;> simp_all)), by (repeat (first | exact Below.refl _ _ | assumption | refine Below.setCell ?_ (by simp) _ | refine Below.alloc ?_ (by simp <;> omega) _ | refine Below.drew ?_ | refine Below.drewN ?_ | refine Below.setRow ?_ (by simp <;> omega) _))⟩

set_option maxRecDepth 100000 in
set_option maxHeartbeats 1600000 in
theorem holds_19 (name f : Int) (w : World) (h0 : 19 ≤ name) (h1 : name ≤ 20) : Calls Tryz.prog 125 #[.int .i64 name, .int .u16 f] w fun e w' => e = .returned (.bool (fl f 1 != (bits .and .i64 (name - 17) 1 == 1))) ∧ Below w.heap.size w w' := by
  have hd : (name - 17) / 2 = 1 := by omega
  have HD := Lib.hid hd
  clear hd
  have t0 : ((name - 17) / 2 == 0) = false := by rw [HD.out]; rfl
  have t1 : ((name - 17) / 2 == 1) = true := by rw [HD.out]; rfl
  go_enter Tryz.func125, Tryz.ntmps125
  go_wp2_with (go_at_call 178; refine (flagIs_any _ _ f _ (by simp [go_sem])).mono ?_; rintro e w' ⟨rfl, rfl⟩)
  all_goals
    go_ret
    exact ⟨by (simp_all [less, bne] <;> (cases h1 : fl f 128 <;> cases h2 : fl f 2048 <;> simp_all)), by (repeat (first | exact Below.refl _ _ | assumption | refine Below.setCell ?_ (by simp) _ | refine Below.alloc ?_ (by simp <;> omega) _ | refine Below.drew ?_ | refine Below.drewN ?_ | refine Below.setRow ?_ (by simp <;> omega) _))⟩

set_option maxRecDepth 100000 in
set_option maxHeartbeats 1600000 in
theorem holds_21 (name f : Int) (w : World) (h0 : 21 ≤ name) (h1 : name ≤ 22) : Calls Tryz.prog 125 #[.int .i64 name, .int .u16 f] w fun e w' => e = .returned (.bool (fl f 64 != (bits .and .i64 (name - 17) 1 == 1))) ∧ Below w.heap.size w w' := by
  have hd : (name - 17) / 2 = 2 := by omega
  have HD := Lib.hid hd
  clear hd
  have t0 : ((name - 17) / 2 == 0) = false := by rw [HD.out]; rfl
  have t1 : ((name - 17) / 2 == 1) = false := by rw [HD.out]; rfl
  have t2 : ((name - 17) / 2 == 2) = true := by rw [HD.out]; rfl
  go_enter Tryz.func125, Tryz.ntmps125
  go_wp2_with (go_at_call 178; refine (flagIs_any _ _ f _ (by simp [go_sem])).mono ?_; rintro e w' ⟨rfl, rfl⟩)
  all_goals
    go_ret
    exact ⟨by (simp_all [less, bne] <;> (cases h1 : fl f 128 <;> cases h2 : fl f 2048 <;> simp_all)), by (repeat (first | exact Below.refl _ _ | assumption | refine Below.setCell ?_ (by simp) _ | refine Below.alloc ?_ (by simp <;> omega) _ | refine Below.drew ?_ | refine Below.drewN ?_ | refine Below.setRow ?_ (by simp <;> omega) _))⟩

set_option maxRecDepth 100000 in
set_option maxHeartbeats 1600000 in
theorem holds_23 (name f : Int) (w : World) (h0 : 23 ≤ name) (h1 : name ≤ 24) : Calls Tryz.prog 125 #[.int .i64 name, .int .u16 f] w fun e w' => e = .returned (.bool ((fl f 1 || fl f 64) != (bits .and .i64 (name - 17) 1 == 1))) ∧ Below w.heap.size w w' := by
  have hd : (name - 17) / 2 = 3 := by omega
  have HD := Lib.hid hd
  clear hd
  have t0 : ((name - 17) / 2 == 0) = false := by rw [HD.out]; rfl
  have t1 : ((name - 17) / 2 == 1) = false := by rw [HD.out]; rfl
  have t2 : ((name - 17) / 2 == 2) = false := by rw [HD.out]; rfl
  have t3 : ((name - 17) / 2 == 3) = true := by rw [HD.out]; rfl
  go_enter Tryz.func125, Tryz.ntmps125
  go_wp2_with (go_at_call 178; refine (flagIs_any _ _ f _ (by simp [go_sem])).mono ?_; rintro e w' ⟨rfl, rfl⟩)
  all_goals
    go_ret
    exact ⟨by (simp_all [less, bne] <;> (cases h1 : fl f 128 <;> cases h2 : fl f 2048 <;> simp_all)), by (repeat (first | exact Below.refl _ _ | assumption | refine Below.setCell ?_ (by simp) _ | refine Below.alloc ?_ (by simp <;> omega) _ | refine Below.drew ?_ | refine Below.drewN ?_ | refine Below.setRow ?_ (by simp <;> omega) _))⟩

set_option maxRecDepth 100000 in
set_option maxHeartbeats 1600000 in
theorem holds_25 (name f : Int) (w : World) (h0 : 25 ≤ name) (h1 : name ≤ 26) : Calls Tryz.prog 125 #[.int .i64 name, .int .u16 f] w fun e w' => e = .returned (.bool (fl f 128 != (bits .and .i64 (name - 17) 1 == 1))) ∧ Below w.heap.size w w' := by
  have hd : (name - 17) / 2 = 4 := by omega
  have HD := Lib.hid hd
  clear hd
  have t0 : ((name - 17) / 2 == 0) = false := by rw [HD.out]; rfl
  have t1 : ((name - 17) / 2 == 1) = false := by rw [HD.out]; rfl
  have t2 : ((name - 17) / 2 == 2) = false := by rw [HD.out]; rfl
  have t3 : ((name - 17) / 2 == 3) = false := by rw [HD.out]; rfl
  have t4 : ((name - 17) / 2 == 4) = true := by rw [HD.out]; rfl
  go_enter Tryz.func125, Tryz.ntmps125
  go_wp2_with (go_at_call 178; refine (flagIs_any _ _ f _ (by simp [go_sem])).mono ?_; rintro e w' ⟨rfl, rfl⟩)
  all_goals
    go_ret
    exact ⟨by (simp_all [less, bne] <;> (cases h1 : fl f 128 <;> cases h2 : fl f 2048 <;> simp_all)), by (repeat (first | exact Below.refl _ _ | assumption | refine Below.setCell ?_ (by simp) _ | refine Below.alloc ?_ (by simp <;> omega) _ | refine Below.drew ?_ | refine Below.drewN ?_ | refine Below.setRow ?_ (by simp <;> omega) _))⟩

set_option maxRecDepth 100000 in
set_option maxHeartbeats 1600000 in
theorem holds_27 (name f : Int) (w : World) (h0 : 27 ≤ name) (h1 : name ≤ 28) : Calls Tryz.prog 125 #[.int .i64 name, .int .u16 f] w fun e w' => e = .returned (.bool (fl f 4 != (bits .and .i64 (name - 17) 1 == 1))) ∧ Below w.heap.size w w' := by
  have hd : (name - 17) / 2 = 5 := by omega
  have HD := Lib.hid hd
  clear hd
  have t0 : ((name - 17) / 2 == 0) = false := by rw [HD.out]; rfl
  have t1 : ((name - 17) / 2 == 1) = false := by rw [HD.out]; rfl
  have t2 : ((name - 17) / 2 == 2) = false := by rw [HD.out]; rfl
  have t3 : ((name - 17) / 2 == 3) = false := by rw [HD.out]; rfl
  have t4 : ((name - 17) / 2 == 4) = false := by rw [HD.out]; rfl
  have t5 : ((name - 17) / 2 == 5) = true := by rw [HD.out]; rfl
  go_enter Tryz.func125, Tryz.ntmps125
  go_wp2_with (go_at_call 178; refine (flagIs_any _ _ f _ (by simp [go_sem])).mono ?_; rintro e w' ⟨rfl, rfl⟩)
  all_goals
    go_ret
    exact ⟨by (simp_all [less, bne] <;> (cases h1 : fl f 128 <;> cases h2 : fl f 2048 <;> simp_all)), by (repeat (first | exact Below.refl _ _ | assumption | refine Below.setCell ?_ (by simp) _ | refine Below.alloc ?_ (by simp <;> omega) _ | refine Below.drew ?_ | refine Below.drewN ?_ | refine Below.setRow ?_ (by simp <;> omega) _))⟩

set_option maxRecDepth 100000 in
set_option maxHeartbeats 1600000 in
theorem holds_29 (name f : Int) (w : World) (h0 : 29 ≤ name) (h1 : name ≤ 30) : Calls Tryz.prog 125 #[.int .i64 name, .int .u16 f] w fun e w' => e = .returned (.bool (less f != (bits .and .i64 (name - 17) 1 == 1))) ∧ Below w.heap.size w w' := by
  have hd : (name - 17) / 2 = 6 := by omega
  have HD := Lib.hid hd
  clear hd
  have t0 : ((name - 17) / 2 == 0) = false := by rw [HD.out]; rfl
  have t1 : ((name - 17) / 2 == 1) = false := by rw [HD.out]; rfl
  have t2 : ((name - 17) / 2 == 2) = false := by rw [HD.out]; rfl
  have t3 : ((name - 17) / 2 == 3) = false := by rw [HD.out]; rfl
  have t4 : ((name - 17) / 2 == 4) = false := by rw [HD.out]; rfl
  have t5 : ((name - 17) / 2 == 5) = false := by rw [HD.out]; rfl
  have t6 : ((name - 17) / 2 == 6) = true := by rw [HD.out]; rfl
  go_enter Tryz.func125, Tryz.ntmps125
  go_wp2_with (go_at_call 178; refine (flagIs_any _ _ f _ (by simp [go_sem])).mono ?_; rintro e w' ⟨rfl, rfl⟩)
  all_goals
    go_ret
    exact ⟨by (simp_all [less, bne] <;> (cases h1 : fl f 128 <;> cases h2 : fl f 2048 <;> simp_all)), by (repeat (first | exact Below.refl _ _ | assumption | refine Below.setCell ?_ (by simp) _ | refine Below.alloc ?_ (by simp <;> omega) _ | refine Below.drew ?_ | refine Below.drewN ?_ | refine Below.setRow ?_ (by simp <;> omega) _))⟩

set_option maxRecDepth 100000 in
set_option maxHeartbeats 1600000 in
theorem holds_31 (name f : Int) (w : World) (h0 : 31 ≤ name) (h1 : name ≤ 32) : Calls Tryz.prog 125 #[.int .i64 name, .int .u16 f] w fun e w' => e = .returned (.bool ((less f || fl f 64) != (bits .and .i64 (name - 17) 1 == 1))) ∧ Below w.heap.size w w' := by
  have hd : (name - 17) / 2 = 7 := by omega
  have HD := Lib.hid hd
  clear hd
  have t0 : ((name - 17) / 2 == 0) = false := by rw [HD.out]; rfl
  have t1 : ((name - 17) / 2 == 1) = false := by rw [HD.out]; rfl
  have t2 : ((name - 17) / 2 == 2) = false := by rw [HD.out]; rfl
  have t3 : ((name - 17) / 2 == 3) = false := by rw [HD.out]; rfl
  have t4 : ((name - 17) / 2 == 4) = false := by rw [HD.out]; rfl
  have t5 : ((name - 17) / 2 == 5) = false := by rw [HD.out]; rfl
  have t6 : ((name - 17) / 2 == 6) = false := by rw [HD.out]; rfl
  have t7 : ((name - 17) / 2 == 7) = true := by rw [HD.out]; rfl
  go_enter Tryz.func125, Tryz.ntmps125
  go_wp2_with (go_at_call 178; refine (flagIs_any _ _ f _ (by simp [go_sem])).mono ?_; rintro e w' ⟨rfl, rfl⟩)
  all_goals
    go_ret
    exact ⟨by (simp_all [less, bne] <;> (cases h1 : fl f 128 <;> cases h2 : fl f 2048 <;> simp_all)), by (repeat (first | exact Below.refl _ _ | assumption | refine Below.setCell ?_ (by simp) _ | refine Below.alloc ?_ (by simp <;> omega) _ | refine Below.drew ?_ | refine Below.drewN ?_ | refine Below.setRow ?_ (by simp <;> omega) _))⟩

end Go.Proofs.YtcglkefaopgjeaaGreatDoor
