/- world.New; the machine's words; core.New. -/
import Derived.Test.YtcglkefaopgjeaaGreatDoorC2
namespace Go.Proofs.YtcglkefaopgjeaaGreatDoor
set_option linter.unusedSimpArgs false
set_option linter.unusedVariables false
open Go.RowKit

def WNew (w : World) (rs : List Int) (e : Ending) (w' : World) : Prop :=
  ∃ p : WPhys, e = .returned (.pointer (some ⟨p.wb, 0, none⟩)) ∧ WorldAt w' p rs 0 [] ∧ Below w.heap.size w w' ∧ w.heap.size ≤ p.wb ∧ p.lv = .slice none 0 0 ∧ (∀ g, p.ra = some g → w.heap.size ≤ g) ∧ p.base = w'.heap.size

theorem wnew_of {w w1 : World} {rs : List Int} {v' : Value} (hown : w1.ownsRow w.heap.size 22 1 v' rs.length (rs.map (Value.int .u16))) (hb : Below w.heap.size w w1) (hbig : rs.length ≤ 70368744175616) :
    WNew w rs (.returned (.pointer (some ⟨w1.heap.size, 0, none⟩))) (w1.alloc (.cells #[v', .int .i64 0, .slice none 0 0] 133)) := by
  obtain ⟨_, ⟨hv, hn⟩ | ⟨g, cap, cur, hv, hg, hh, _, _, hs, htake⟩⟩ := hown
  · obtain rfl : rs = [] := List.eq_nil_of_length_eq_zero hn
    subst hv
    refine ⟨⟨w1.heap.size, w1.heap.size + 1, none, 0, .slice none 0 0⟩, rfl, ⟨Row.new _ _ _, ?_, ?_, World.ownsRow_nil _ _ _ _, ?_, ?_, Nat.le_refl _, by simp, by simp⟩, hb.alloc hb.size _, hb.size, rfl, ?_, ?_⟩
    · intro j hj; simp at hj
    · intro g hg; simp at hg
    · simp
    · simp
    · intro g hg; simp at hg
    · simp
  · subst hv
    have glt : g < w1.heap.size := (Array.getElem?_eq_some_iff.1 hh).1
    refine ⟨⟨w1.heap.size, w1.heap.size + 1, some g, cap, .slice none 0 0⟩, rfl, ⟨Row.new _ _ _, ?_, ?_, World.ownsRow_nil _ _ _ _, ?_, ?_, Nat.zero_le _, by simp, by omega⟩, hb.alloc hb.size _, hb.size, rfl, ?_, ?_⟩
    · intro j hj
      refine ⟨g, rfl, ?_⟩
      have r : Row w1 g cur _ := hh
      rw [(r.alloc _).cell]
      have e : cur[j]? = (cur.toList.take (rs.length * 1))[j]? := by
        rw [List.getElem?_take, if_pos (by omega)]; simp
      rw [e, htake]
      simp [List.getD, hj]
    · intro k hk
      simp only [Option.some.injEq] at hk
      subst hk
      exact ⟨by show g < w1.heap.size + 1; omega, by show g ≠ w1.heap.size; omega⟩
    · simp
    · simp
    · intro k hk
      simp only [Option.some.injEq] at hk
      subst hk
      exact hg
    · simp

theorem own_form {w : World} {base : Nat} {t : TypeId} {size : Nat} {v : Value} {n : Nat} {xs : List Value} (h : w.ownsRow base t size v n xs) : v = .slice none 0 0 ∨ ∃ g cap, v = .slice (some ⟨g, 0, none⟩) n cap := by
  obtain ⟨_, h2 | ⟨g, cap, cur, hv, _⟩⟩ := h
  · exact Or.inl h2.1
  · exact Or.inr ⟨g, cap, hv⟩
theorem one_map (rs : List Int) : ∀ u ∈ rs.map (Value.int .u16), u.oneCell' = true := by
  intro u hu
  obtain ⟨x, _, rfl⟩ := List.mem_map.1 hu
  rfl

set_option maxHeartbeats 800000 in
theorem worldNew_some (w : World) (ad : Addr) (c : Nat) (rs : List Int) (hnews : ∀ j u, (rs.map (Value.int .u16))[j]? = some u → w.cell? (ad.add j) = some u) (hbig : rs.length ≤ 70368744175616) :
    Calls Tryz.prog 53 #[.slice (some ad) rs.length c] w (WNew w rs) := by
  have H := Lib.hid hnews
  have ONE := Lib.hid (one_map rs)
  have HL := Lib.hid (show (rs.map (Value.int .u16)).length = rs.length * 1 by simp)
  clear hnews
  go_enter Tryz.func53, Tryz.ntmps53
  go_wp2_with (go_at_call 97; refine (cloneW_any _ ad _ _ (rs.map (Value.int .u16)) HL.out H.out ONE.out hbig).mono ?_; rintro e w1 ⟨v', rfl, hq1, hq2⟩; have H1 := Lib.hid hq1; have H2 := Lib.hid hq2; clear hq1 hq2; rcases own_form H1.out with rfl | ⟨g, cap, rfl⟩)
  all_goals
    go_ret
    exact wnew_of H1.out H2.out hbig
set_option maxHeartbeats 800000 in
theorem worldNew_nil (w : World) :
    Calls Tryz.prog 53 #[.slice none 0 0] w (WNew w []) := by
  go_enter Tryz.func53, Tryz.ntmps53
  go_wp2_with (go_at_call 97; refine (cloneW_nil _).mono ?_; rintro e w' ⟨rfl, rfl⟩)
  go_ret
  exact wnew_of (rs := []) (World.ownsRow_nil _ _ _ _) (Below.refl _ _) (by simp)

/-- A machine's state. -/
structure Mach where
  r : Regs
  base : Int
  size : Int
  state : Int
  mem : Nat → Int
  tag : Nat → Int
  rs : List Int
  at_ : Nat
  ev : List Ev

/-- Where a machine lies. -/
structure Phys where
  b : Nat
  mb : Nat
  bb : Nat
  tb : Nat
  wb : Nat
  base : Nat
  ra : Option Nat
  rcap : Nat

abbrev Phys.wp (C : Phys) (lv : Value) : WPhys := ⟨C.wb, C.base, C.ra, C.rcap, lv⟩
def mcells (C : Phys) (m : Mach) : Array Value := m.r.cells ++ #[.pointer (some ⟨C.mb, 0, none⟩), .pointer (some ⟨C.wb, 0, none⟩), .int .u32 m.base, .int .u32 m.size, .int .i64 m.state]
def Phys.own (C : Phys) (lv : Value) : Nat → Prop := fun k => k = C.b ∨ k = C.bb ∨ k = C.tb ∨ k = C.wb ∨ lv.ownBlock = some k

def V.wf (x : V) : Prop := 0 ≤ x.v ∧ x.v ≤ 65535
structure Regs.wf (r : Regs) : Prop where
  g0 : r.g0.wf
  g1 : r.g1.wf
  g2 : r.g2.wf
  g3 : r.g3.wf
  g4 : r.g4.wf
  g5 : r.g5.wf
  g6 : r.g6.wf
  g7 : r.g7.wf
  s0 : r.s0.wf
  s1 : r.s1.wf
  s2 : r.s2.wf
  s3 : r.s3.wf
  ip : 0 ≤ r.ip ∧ r.ip ≤ 65535
  f : 0 ≤ r.f ∧ r.f ≤ 65535

structure Mach.wf (m : Mach) : Prop where
  r : m.r.wf
  base : 0 ≤ m.base ∧ m.base ≤ 1048560
  size : 0 ≤ m.size ∧ m.size ≤ 1048576

structure Own (w : World) (C : Phys) (lv : Value) (m : Mach) : Prop where
  row : Row w C.b (mcells C m) 44
  mem : MemAt w C.mb C.bb C.tb m.mem m.tag
  wor : WorldAt w (C.wp lv) m.rs m.at_ m.ev
  wf : m.wf
  n1 : C.b ≠ C.mb
  n2 : C.b ≠ C.bb
  n3 : C.b ≠ C.tb
  n4 : C.b ≠ C.wb
  n5 : C.mb ≠ C.wb
  n6 : C.bb ≠ C.wb
  n7 : C.tb ≠ C.wb
  l1 : C.b < C.base
  l2 : C.mb < C.base
  l3 : C.bb < C.base
  l4 : C.tb < C.base
  ra : ∀ g, C.ra = some g → g ≠ C.b ∧ g ≠ C.mb ∧ g ≠ C.bb ∧ g ≠ C.tb

def After (C : Phys) (lv : Value) (w : World) (m' : Mach) (w' : World) : Prop :=
  ∃ lv', Own w' C lv' m' ∧ Fr (C.own lv) w w' ∧ (∀ k, lv'.ownBlock = some k → lv.ownBlock = some k ∨ w.heap.size ≤ k)
end Go.Proofs.YtcglkefaopgjeaaGreatDoor
