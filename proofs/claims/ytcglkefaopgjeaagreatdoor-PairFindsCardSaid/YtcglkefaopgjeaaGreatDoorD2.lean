/- Contracts of package core. -/
import Derived.Test.YtcglkefaopgjeaaGreatDoorD1
namespace Go.Proofs.YtcglkefaopgjeaaGreatDoor
set_option linter.unusedSimpArgs false
set_option linter.unusedVariables false
open Go.RowKit

theorem quietS {P : Program} {f : FuncId} {args : Array Value} {w : World} {n : Nat} {v : Value}
    (h : Calls P f args (w.drewN n) fun e w' => e = .returned v ∧ w.drewN n = w') : Calls P f args (w.drewN n) fun e w'' => e = .returned v ∧ ∃ m, w'' = w.drewN m :=
  h.mono fun _ _ ⟨he, hm⟩ => ⟨he, n, hm.symm⟩
set_option maxHeartbeats 800000 in
theorem plain_yes (w : World) (C : Phys) (lv : Value) (m : Mach) (h : Own w C lv m) (x : Int) :
    Calls Tryz.prog 115 #[.pointer (some ⟨C.b, 0, none⟩), (⟨x, false⟩ : V).val] w fun e w' => e = .returned (.int .u16 x) ∧ Below w.heap.size w w' := by
  go_enter Tryz.func115, Tryz.ntmps115
  go_wp2_with fail
  go_ret
  exact ⟨rfl, by (repeat (first | exact Below.refl _ _ | assumption | refine Below.setCell ?_ (by simp) _ | refine Below.alloc ?_ (by simp <;> omega) _ | refine Below.drew ?_ | refine Below.drewN ?_ | refine Below.setRow ?_ (by simp <;> omega) _))⟩
set_option maxHeartbeats 800000 in
theorem plain_no (w : World) (C : Phys) (lv : Value) (m : Mach) (h : Own w C lv m) (x : Int) :
    Calls Tryz.prog 115 #[.pointer (some ⟨C.b, 0, none⟩), (⟨x, true⟩ : V).val] w fun e w' => e = .returned (.int .u16 x) ∧ After C lv w m.stuck w' := by
  have H := Lib.hid (h.alloc (.cells #[.int .u16 x, .bool true] 24))
  have B := Lib.hid (Box.new h #[.int .u16 x, .bool true] 24)
  clear h
  go_enter Tryz.func115, Tryz.ntmps115
  go_wp2_with fail
  refine (stuck_any _ _ _ _ H.out).mono ?_; rintro e w1 ⟨rfl, lv1, h1, f1, k1⟩; dsimp only
  have b1 := (B.out.step f1 k1).row.cell
  have H1 := Lib.hid h1
  have F1 := Lib.hid f1
  have K1 := Lib.hid k1
  clear h1 f1 k1
  go_wp2_with fail
  go_ret
  exact ⟨rfl, After.pre ((Fr.refl _ _).alloc _) (fun _ hk => Or.inl hk) ⟨lv1, H1.out, F1.out, K1.out⟩⟩

def Mach.plain (m : Mach) (x : V) : Mach := if x.t then m.stuck else m
theorem plain_any (w : World) (C : Phys) (lv : Value) (m : Mach) (h : Own w C lv m) (x : V) :
    Calls Tryz.prog 115 #[.pointer (some ⟨C.b, 0, none⟩), x.val] w fun e w' => e = .returned (.int .u16 x.v) ∧ After C lv w (m.plain x) w' := by
  obtain ⟨v, t⟩ := x
  cases t with
  | false =>
    refine (plain_yes w C lv m h v).mono ?_
    rintro e w' ⟨rfl, hb⟩
    exact ⟨rfl, After.of_own (h.below hb) (Fr.of_below hb)⟩
  | true => exact plain_no w C lv m h v

/-- Is a segment's byte the program's? -/
def Mach.own1 (m : Mach) (seg : V) (off : Int) : Bool := seg.t && decide (((lin seg.v off : Int) - m.base) % 1048576 < m.size)

theorem wrap32_lo (x : Int) : 0 ≤ IntKind.u32.wrap x := by rw [IntKind.wrap_u32]; omega
theorem wrap32_hi (x : Int) : IntKind.u32.wrap x ≤ 4294967295 := by rw [IntKind.wrap_u32]; omega

set_option maxHeartbeats 800000 in
theorem own1_any (w : World) (C : Phys) (lv : Value) (m : Mach) (h : Own w C lv m) (seg : V) (off : Int) (hs : seg.wf) (h0 : 0 ≤ off) (h1 : off ≤ 65535) :
    Calls Tryz.prog 152 #[.pointer (some ⟨C.b, 0, none⟩), seg.val, .int .u16 off] w fun e w' => e = .returned (.bool (m.own1 seg off)) ∧ Below w.heap.size w w' := by
  obtain ⟨sv, st⟩ := seg
  obtain ⟨s0, s1⟩ := hs
  have hc := h.row.cell
  have hl := h.row.lt
  have hb := h.wf.base
  have hz := h.wf.size
  clear h
  dsimp only at s0 s1
  have w0 := wrap32_lo ((lin sv off : Int) - m.base)
  go_enter Tryz.func152, Tryz.ntmps152
  go_wp2_with fail
  go_quiet ((go_at_call 84; exact quietS (linear_any _ _ _ s0 s1 h0 h1)))
  go_wp2_with fail
  all_goals
    go_ret
    exact ⟨by simp_all [Mach.own1], by (repeat (first | exact Below.refl _ _ | assumption | refine Below.setCell ?_ (by simp) _ | refine Below.alloc ?_ (by simp <;> omega) _ | refine Below.drew ?_ | refine Below.drewN ?_ | refine Below.setRow ?_ (by simp <;> omega) _))⟩

abbrev P3 (seg : V) (off : Int) : Value := .agg #[.int .u16 seg.v, .bool seg.t, .int .u16 off]
def Mach.owns (m : Mach) (seg : V) (off : Int) : Nat → Bool
  | 0 => true
  | n + 1 => m.owns seg off n && m.own1 seg (IntKind.u16.wrap (off + n))

theorem owns_false (m : Mach) (seg : V) (off : Int) (n k : Nat) (hk : k < n) (h : m.own1 seg (IntKind.u16.wrap (off + k)) = false) : m.owns seg off n = false := by
  induction n with
  | zero => omega
  | succ n ih =>
    rw [Mach.owns]
    by_cases e : k = n
    · subst e; rw [h, Bool.and_false]
    · rw [ih (by omega), Bool.false_and]
set_option maxHeartbeats 1600000 in
theorem Own_any (w : World) (C : Phys) (lv : Value) (m : Mach) (h : Own w C lv m) (seg : V) (off : Int) (hs : seg.wf) (n : Nat) (hn : n ≤ 65535) :
    Calls Tryz.prog 100 #[.pointer (some ⟨C.b, 0, none⟩), P3 seg off, .int .i64 n] w fun e w' => e = .returned (.bool (m.owns seg off n)) ∧ Below w.heap.size w w' := by
  have H := Lib.hid h
  have B := Lib.hid (Box.new h #[.int .u16 seg.v, .bool seg.t, .int .u16 off] 52)
  clear h
  go_enter Tryz.func100, Tryz.ntmps100
  go_wp2_with fail
  go_loopw [7, 9] (fun _ i wr => ∃ k : Nat, k ≤ n ∧ i = .int .i64 k ∧ m.owns seg off k = true ∧ Below (w.heap.size + 1) (w.alloc (.cells #[.int .u16 seg.v, .bool seg.t, .int .u16 off] 52)) wr) (fun _ i _ => n - (intOf i).toNat)
  case atStart => exact ⟨0, Nat.zero_le _, rfl, rfl, Below.refl _ _⟩
  case round =>
    obtain ⟨k, hk, rfl, hown, hbl⟩ := hrel
    have hb0 : Below w.heap.size w wr := ((Below.refl _ _).alloc (Nat.le_refl _) _).trans (hbl.mono (by omega))
    have hbr : Row wr w.heap.size #[.int .u16 seg.v, .bool seg.t, .int .u16 off] 52 := Below.row hbl B.out.row (by omega)
    have bc := hbr.cell
    have HB := Lib.hid hbl
    have HO := Lib.hid (H.out.below hb0)
    have H0 := Lib.hid hb0
    have hsz : w.heap.size < wr.heap.size := hbr.lt
    have HOW := Lib.hid hown
    clear hbl hb0 hbr hown
    by_cases hlt : k < n
    · have hi : ((k : Nat) : Int) < ((n : Nat) : Int) := by omega
      have hw := wrap16_lo (off + k)
      have hw' := wrap16_hi (off + k)
      cases ho : m.own1 seg (IntKind.u16.wrap (off + k)) with
      | true =>
        have HH := Lib.hid ho
        clear ho
        go_wp2_with (go_at_call 152; refine (own1_any _ _ _ _ HO.out seg _ hs hw hw').mono ?_; rw [HH.out]; rintro e w1 ⟨rfl, hb1⟩; have H1 := Lib.hid hb1; clear hb1)
        exact ⟨⟨k + 1, by omega, by go_num, by rw [Mach.owns, HOW.out, HH.out]; rfl, HB.out.trans (H1.out.mono (by omega))⟩, by simp [intOf]; omega⟩
      | false =>
        have HH := Lib.hid ho
        clear ho
        go_wp2_with (go_at_call 152; refine (own1_any _ _ _ _ HO.out seg _ hs hw hw').mono ?_; rw [HH.out]; rintro e w1 ⟨rfl, hb1⟩; have H1 := Lib.hid hb1; clear hb1)
        go_ret
        exact ⟨by rw [owns_false m seg off n k hlt HH.out]; rfl, H0.out.trans (H1.out.mono (by omega))⟩
    · go_wp2_with fail
      go_ret
      obtain rfl : k = n := by omega
      exact ⟨by rw [HOW.out]; rfl, H0.out⟩
end Go.Proofs.YtcglkefaopgjeaaGreatDoor
