/- Package inst, continued: Two, Imms, Row, second. -/
import Derived.Test.YtcglkefaopgjeaaGreatDoorH4
namespace Go.Proofs.YtcglkefaopgjeaaGreatDoor
set_option linter.unusedSimpArgs false
set_option linter.unusedVariables false
open Go.RowKit

def modOf (op reg : Int) : Bool := ((isaOf op reg).getD zRow).mod
theorem modOf_isSome (op reg : Int) (h : modOf op reg = true) : (isaOf op reg).isSome = true := by
  unfold modOf at h
  cases he : isaOf op reg with
  | none => rw [he] at h; cases h
  | some r => rfl
theorem rowV_none : rowV none = .tuple #[.agg #[.int .i64 0, .int .i64 0, .int .i64 0, .bool false], .bool false] := rfl
theorem rowV_some (n a b : Int) (m : Bool) : rowV (some ⟨n, a, b, m⟩) = .tuple #[.agg #[.int .i64 n, .int .i64 a, .int .i64 b, .bool m], .bool true] := rfl
def twoTo (op : Int) : Nat → Bool
  | 0 => false
  | n + 1 => twoTo op n || modOf op n
def twoOf (op : Int) : Bool := twoTo op 8
theorem twoTo_true (op : Int) (n k : Nat) (hk : k < n) (h : modOf op k = true) : twoTo op n = true := by
  induction n with
  | zero => omega
  | succ n ih =>
    rw [twoTo]
    by_cases e : k = n
    · subst e; rw [h, Bool.or_true]
    · rw [ih (by omega), Bool.true_or]

set_option maxRecDepth 100000 in
set_option maxHeartbeats 1600000 in
theorem two_any (op : Int) (w : World) (h0 : 0 ≤ op) (h1 : op ≤ 255) : Calls Tryz.prog 148 #[.int .u8 op] w fun e w' => e = .returned (.bool (twoOf op)) ∧ Below w.heap.size w w' := by
  go_enter Tryz.func148, Tryz.ntmps148
  go_wp2_with fail
  go_loopw [6] (fun i wr => ∃ k : Nat, k ≤ 8 ∧ i = .int .i64 k ∧ twoTo op k = false ∧ Below w.heap.size w wr) (fun i _ => 8 - (intOf i).toNat)
  case atStart => exact ⟨0, by omega, rfl, rfl, Below.refl _ _⟩
  case round =>
    obtain ⟨k, hk, rfl, hno, hb⟩ := hrel
    have HB := Lib.hid hb
    have HN := Lib.hid hno
    clear hb hno
    by_cases hlt : k < 8
    · have hi : ((k : Nat) : Int) < 8 := by omega
      go_wp2_with fail
      refine (isaOf_any op _ _ h0 h1 (by omega) (by omega)).mono ?_
      cases hq : isaOf op (k : Int) with
      | none =>
        have HM := Lib.hid (show twoTo op (k + 1) = false by rw [twoTo, HN.out, modOf, hq]; rfl)
        rw [rowV_none]
        clear hq
        rintro e w1 ⟨rfl, hb1⟩; dsimp only
        have HB1 := Lib.hid (HB.out.trans (hb1.mono HB.out.size))
        clear hb1
        go_wp2_with fail
        exact ⟨⟨k + 1, by omega, by go_num, HM.out, HB1.out.alloc HB1.out.size _⟩, by simp [intOf]; omega⟩
      | some r =>
        obtain ⟨rn, ra, rb, rm⟩ := r
        rw [rowV_some]
        cases rm with
        | false =>
          have HM := Lib.hid (show twoTo op (k + 1) = false by rw [twoTo, HN.out, modOf, hq]; rfl)
          clear hq
          rintro e w1 ⟨rfl, hb1⟩; dsimp only
          have HB1 := Lib.hid (HB.out.trans (hb1.mono HB.out.size))
          clear hb1
          go_wp2_with fail
          exact ⟨⟨k + 1, by omega, by go_num, HM.out, HB1.out.alloc HB1.out.size _⟩, by simp [intOf]; omega⟩
        | true =>
          have HM := Lib.hid (show twoOf op = true from twoTo_true op 8 k hlt (by rw [modOf, hq]; rfl))
          clear hq
          rintro e w1 ⟨rfl, hb1⟩; dsimp only
          have HB1 := Lib.hid (HB.out.trans (hb1.mono HB.out.size))
          clear hb1
          go_wp2_with fail
          go_ret
          rw [HM.out]
          exact ⟨rfl, HB1.out.alloc HB1.out.size _⟩
    · go_wp2_with fail
      go_ret
      obtain rfl : k = 8 := by omega
      exact ⟨by rw [show twoOf op = twoTo op 8 from rfl, HN.out]; rfl, HB.out⟩

/-- What an instruction does, to what. -/
def instRow (op reg : Int) : Option IRow := if isPre op then none else isaOf op reg
set_option maxRecDepth 100000 in
set_option maxHeartbeats 1600000 in
theorem instRow_any (i : Inst) (w : World) (h0 : 0 ≤ i.op) (h1 : i.op ≤ 255) (r0 : 0 ≤ i.reg) (r1 : i.reg ≤ 7) : Calls Tryz.prog 61 #[i.val] w fun e w' => e = .returned (rowV (instRow i.op i.reg)) ∧ Below w.heap.size w w' := by
  obtain ⟨lock, rep, seg, op, mod, reg, rm, disp, imm, sel⟩ := i
  dsimp only at h0 h1 r0 r1
  have hb0 := ((Below.refl w.heap.size w).alloc (Nat.le_refl _) (.cells #[.bool lock, .int .i64 rep, .int .i64 seg, .int .u8 op, .int .i64 mod, .int .i64 reg, .int .i64 rm, .int .u16 disp, .int .u16 imm, .int .u16 sel] 30)).alloc (by simp) (.cells #[.int .i64 0, .int .i64 0, .int .i64 0, .bool false] 47)
  have hr0 := Row.new' (w := w.alloc (.cells #[.bool lock, .int .i64 rep, .int .i64 seg, .int .u8 op, .int .i64 mod, .int .i64 reg, .int .i64 rm, .int .u16 disp, .int .u16 imm, .int .u16 sel] 30)) (n := w.heap.size + 1) (cs := #[.int .i64 0, .int .i64 0, .int .i64 0, .bool false]) (t := 47) (by simp)
  have HB0 := Lib.hid hb0
  have HR0 := Lib.hid hr0
  clear hb0 hr0
  cases hp : isPre op with
  | true =>
    have HE := Lib.hid (show instRow op reg = none by rw [instRow, hp]; rfl)
    have HP := Lib.hid hp
    clear hp
    go_enter Tryz.func61, Tryz.ntmps61
    go_wp2_with (go_at_call 102; refine (isPre_any _ _).mono ?_; rw [HP.out]; rintro e w' ⟨rfl, rfl⟩)
    rw [HE.out, rowV_none]
    refine bodyPost_ret (v := .tuple #[.agg #[.int .i64 0, .int .i64 0, .int .i64 0, .bool false], .bool false]) (by simp [results, Tryz.results61, go_sem]) rfl ⟨rfl, ?_⟩
    (repeat (first | exact Below.refl _ _ | assumption | refine Below.setCell ?_ (by simp) _ | refine Below.alloc ?_ (by simp <;> omega) _ | refine Below.drew ?_ | refine Below.drewN ?_ | refine Below.setRow ?_ (by simp <;> omega) _))
  | false =>
    obtain ⟨rr, hrr⟩ : ∃ rr, isaOf op reg = rr := ⟨_, rfl⟩
    have HE := Lib.hid (show instRow op reg = rr by rw [instRow, hp, ← hrr]; rfl)
    have HRR := Lib.hid hrr
    have HP := Lib.hid hp
    clear hp hrr
    go_enter Tryz.func61, Tryz.ntmps61
    go_wp2_with (go_at_call 102; refine (isPre_any _ _).mono ?_; rw [HP.out]; rintro e w' ⟨rfl, rfl⟩)
    refine (isaOf_any op reg _ h0 h1 r0 r1).mono ?_
    rw [HRR.out]
    rintro e w1 ⟨rfl, hb1⟩; dsimp only
    have hr := Below.row hb1 HR0.out HR0.out.lt
    have HB1 := Lib.hid (HB0.out.trans (hb1.mono HB0.out.size))
    have rc := hr.cell
    have rf := hr.frozen
    have rl := hr.lt
    clear hb1 hr
    go_wp2_with fail
    rw [HE.out]
    refine bodyPost_ret (v := rowV rr) (by simp [results, Tryz.results61, go_sem, *]) rfl ⟨rfl, ?_⟩
    exact (((HB1.out.setCell (p := ⟨w.heap.size + 1, _, none⟩) (Nat.le_succ _) _).setCell (p := ⟨w.heap.size + 1, _, none⟩) (Nat.le_succ _) _).setCell (p := ⟨w.heap.size + 1, _, none⟩) (Nat.le_succ _) _).setCell (p := ⟨w.heap.size + 1, _, none⟩) (Nat.le_succ _) _

def immsOf (r : IRow) : Int := immOf r.a + immOf r.b
theorem immOf_lo (k : Int) : 0 ≤ immOf k := by unfold immOf; split; omega; split; omega; split <;> omega
theorem immOf_hi (k : Int) : immOf k ≤ 4 := by unfold immOf; split; omega; split; omega; split <;> omega
set_option maxHeartbeats 400000 in
theorem imms_any (r : IRow) (w : World) : Calls Tryz.prog 62 #[r.val] w fun e w' => e = .returned (.int .i64 (immsOf r)) ∧ Below w.heap.size w w' := by
  have a0 := immOf_lo r.a
  have a1 := immOf_hi r.a
  have b0 := immOf_lo r.b
  have b1 := immOf_hi r.b
  have hs : IntKind.i64.wrap (immOf r.a + immOf r.b) = immOf r.a + immOf r.b := IntWalk.i64_in _ (by omega)
  go_enter Tryz.func62, Tryz.ntmps62
  go_wp2_with fail
  go_quiet ((go_at_call 104; exact quietS (imm_any _ _)))
  go_wp2_with fail
  go_ret
  exact ⟨rfl, by (repeat (first | exact Below.refl _ _ | assumption | refine Below.setCell ?_ (by simp) _ | refine Below.alloc ?_ (by simp <;> omega) _ | refine Below.drew ?_ | refine Below.drewN ?_ | refine Below.setRow ?_ (by simp <;> omega) _))⟩
end Go.Proofs.YtcglkefaopgjeaaGreatDoor
