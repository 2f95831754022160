/- Parts of the proof, in one text: YtcglkefaopgjeaaGreatDoorH5 YtcglkefaopgjeaaGreatDoorH6 YtcglkefaopgjeaaGreatDoorH7 YtcglkefaopgjeaaGreatDoorH8 YtcglkefaopgjeaaGreatDoorH9 YtcglkefaopgjeaaGreatDoorI0 YtcglkefaopgjeaaGreatDoorI1 YtcglkefaopgjeaaGreatDoorI2 YtcglkefaopgjeaaGreatDoorI3 YtcglkefaopgjeaaGreatDoorI4 YtcglkefaopgjeaaGreatDoorI5 YtcglkefaopgjeaaGreatDoorI6 YtcglkefaopgjeaaGreatDoorI7. Each part's own remark says what it proves; conditions: those of each theorem. -/
import Derived.Test.YtcglkefaopgjeaaGreatDoorH4
import Derived.Test.YtcglkefaopgjeaaGreatDoorD6
import Derived.Recover
import Derived.Test.YtcglkefaopgjeaaGreatDoorE6
import Derived.Deep.DeepCutAuto
import Derived.Test.YtcglkefaopgjeaaGreatDoorE7
import Derived.Test.YtcglkefaopgjeaaGreatDoorJ4
import Derived.Deep.CutBlock

/- Package inst, continued: Two, Imms, Row, second. -/
namespace Go.Proofs.YtcglkefaopgjeaaGreatDoor
set_option linter.unusedSimpArgs false
set_option linter.unusedVariables false
open Go.RowKit

def modOf (op reg : Int) : Bool := ((isaOf op reg).getD zRow).mod
theorem modOf_isSome (op reg : Int) (h : modOf op reg = true) : (isaOf op reg).isSome = true := by
  unfold modOf at h
  cases he : isaOf op reg with
  | none => rw [he] at h; cases h
  | some r => rfl
theorem rowV_none : rowV none = .tuple #[.agg #[.int .i64 0, .int .i64 0, .int .i64 0, .bool false], .bool false] := rfl
theorem rowV_some (n a b : Int) (m : Bool) : rowV (some ⟨n, a, b, m⟩) = .tuple #[.agg #[.int .i64 n, .int .i64 a, .int .i64 b, .bool m], .bool true] := rfl
def twoTo (op : Int) : Nat → Bool
  | 0 => false
  | n + 1 => twoTo op n || modOf op n
def twoOf (op : Int) : Bool := twoTo op 8
theorem twoTo_true (op : Int) (n k : Nat) (hk : k < n) (h : modOf op k = true) : twoTo op n = true := by
  induction n with
  | zero => omega
  | succ n ih =>
    rw [twoTo]
    by_cases e : k = n
    · subst e; rw [h, Bool.or_true]
    · rw [ih (by omega), Bool.true_or]

set_option maxRecDepth 100000 in
set_option maxHeartbeats 1600000 in
theorem two_any (op : Int) (w : World) (h0 : 0 ≤ op) (h1 : op ≤ 255) : Calls Tryz.prog 148 #[.int .u8 op] w fun e w' => e = .returned (.bool (twoOf op)) ∧ Below w.heap.size w w' := by
  go_enter Tryz.func148, Tryz.ntmps148
  go_wp2_with fail
  go_loopw [6] (fun i wr => ∃ k : Nat, k ≤ 8 ∧ i = .int .i64 k ∧ twoTo op k = false ∧ Below w.heap.size w wr) (fun i _ => 8 - (intOf i).toNat)
  case atStart => exact ⟨0, by omega, rfl, rfl, Below.refl _ _⟩
  case round =>
    obtain ⟨k, hk, rfl, hno, hb⟩ := hrel
    have HB := Lib.hid hb
    have HN := Lib.hid hno
    clear hb hno
    by_cases hlt : k < 8
    · have hi : ((k : Nat) : Int) < 8 := by omega
      go_wp2_with fail
      refine (isaOf_any op _ _ h0 h1 (by omega) (by omega)).mono ?_
      cases hq : isaOf op (k : Int) with
      | none =>
        have HM := Lib.hid (show twoTo op (k + 1) = false by rw [twoTo, HN.out, modOf, hq]; rfl)
        rw [rowV_none]
        clear hq
        rintro e w1 ⟨rfl, hb1⟩; dsimp only
        have HB1 := Lib.hid (HB.out.trans (hb1.mono HB.out.size))
        clear hb1
        go_wp2_with fail
        exact ⟨⟨k + 1, by omega, by go_num, HM.out, HB1.out.alloc HB1.out.size _⟩, by simp [intOf]; omega⟩
      | some r =>
        obtain ⟨rn, ra, rb, rm⟩ := r
        rw [rowV_some]
        cases rm with
        | false =>
          have HM := Lib.hid (show twoTo op (k + 1) = false by rw [twoTo, HN.out, modOf, hq]; rfl)
          clear hq
          rintro e w1 ⟨rfl, hb1⟩; dsimp only
          have HB1 := Lib.hid (HB.out.trans (hb1.mono HB.out.size))
          clear hb1
          go_wp2_with fail
          exact ⟨⟨k + 1, by omega, by go_num, HM.out, HB1.out.alloc HB1.out.size _⟩, by simp [intOf]; omega⟩
        | true =>
          have HM := Lib.hid (show twoOf op = true from twoTo_true op 8 k hlt (by rw [modOf, hq]; rfl))
          clear hq
          rintro e w1 ⟨rfl, hb1⟩; dsimp only
          have HB1 := Lib.hid (HB.out.trans (hb1.mono HB.out.size))
          clear hb1
          go_wp2_with fail
          go_ret
          rw [HM.out]
          exact ⟨rfl, HB1.out.alloc HB1.out.size _⟩
    · go_wp2_with fail
      go_ret
      obtain rfl : k = 8 := by omega
      exact ⟨by rw [show twoOf op = twoTo op 8 from rfl, HN.out]; rfl, HB.out⟩

/-- What an instruction does, to what. -/
def instRow (op reg : Int) : Option IRow := if isPre op then none else isaOf op reg
set_option maxRecDepth 100000 in
set_option maxHeartbeats 1600000 in
theorem instRow_any (i : Inst) (w : World) (h0 : 0 ≤ i.op) (h1 : i.op ≤ 255) (r0 : 0 ≤ i.reg) (r1 : i.reg ≤ 7) : Calls Tryz.prog 61 #[i.val] w fun e w' => e = .returned (rowV (instRow i.op i.reg)) ∧ Below w.heap.size w w' := by
  obtain ⟨lock, rep, seg, op, mod, reg, rm, disp, imm, sel⟩ := i
  dsimp only at h0 h1 r0 r1
  have hb0 := ((Below.refl w.heap.size w).alloc (Nat.le_refl _) (.cells #[.bool lock, .int .i64 rep, .int .i64 seg, .int .u8 op, .int .i64 mod, .int .i64 reg, .int .i64 rm, .int .u16 disp, .int .u16 imm, .int .u16 sel] 30)).alloc (by simp) (.cells #[.int .i64 0, .int .i64 0, .int .i64 0, .bool false] 47)
  have hr0 := Row.new' (w := w.alloc (.cells #[.bool lock, .int .i64 rep, .int .i64 seg, .int .u8 op, .int .i64 mod, .int .i64 reg, .int .i64 rm, .int .u16 disp, .int .u16 imm, .int .u16 sel] 30)) (n := w.heap.size + 1) (cs := #[.int .i64 0, .int .i64 0, .int .i64 0, .bool false]) (t := 47) (by simp)
  have HB0 := Lib.hid hb0
  have HR0 := Lib.hid hr0
  clear hb0 hr0
  cases hp : isPre op with
  | true =>
    have HE := Lib.hid (show instRow op reg = none by rw [instRow, hp]; rfl)
    have HP := Lib.hid hp
    clear hp
    go_enter Tryz.func61, Tryz.ntmps61
    go_wp2_with (go_at_call 102; refine (isPre_any _ _).mono ?_; rw [HP.out]; rintro e w' ⟨rfl, rfl⟩)
    rw [HE.out, rowV_none]
    refine bodyPost_ret (v := .tuple #[.agg #[.int .i64 0, .int .i64 0, .int .i64 0, .bool false], .bool false]) (by simp [results, Tryz.results61, go_sem]) rfl ⟨rfl, ?_⟩
    (repeat (first | exact Below.refl _ _ | assumption | refine Below.setCell ?_ (by simp) _ | refine Below.alloc ?_ (by simp <;> omega) _ | refine Below.drew ?_ | refine Below.drewN ?_ | refine Below.setRow ?_ (by simp <;> omega) _))
  | false =>
    obtain ⟨rr, hrr⟩ : ∃ rr, isaOf op reg = rr := ⟨_, rfl⟩
    have HE := Lib.hid (show instRow op reg = rr by rw [instRow, hp, ← hrr]; rfl)
    have HRR := Lib.hid hrr
    have HP := Lib.hid hp
    clear hp hrr
    go_enter Tryz.func61, Tryz.ntmps61
    go_wp2_with (go_at_call 102; refine (isPre_any _ _).mono ?_; rw [HP.out]; rintro e w' ⟨rfl, rfl⟩)
    refine (isaOf_any op reg _ h0 h1 r0 r1).mono ?_
    rw [HRR.out]
    rintro e w1 ⟨rfl, hb1⟩; dsimp only
    have hr := Below.row hb1 HR0.out HR0.out.lt
    have HB1 := Lib.hid (HB0.out.trans (hb1.mono HB0.out.size))
    have rc := hr.cell
    have rf := hr.frozen
    have rl := hr.lt
    clear hb1 hr
    go_wp2_with fail
    rw [HE.out]
    refine bodyPost_ret (v := rowV rr) (by simp [results, Tryz.results61, go_sem, *]) rfl ⟨rfl, ?_⟩
    exact (((HB1.out.setCell (p := ⟨w.heap.size + 1, _, none⟩) (Nat.le_succ _) _).setCell (p := ⟨w.heap.size + 1, _, none⟩) (Nat.le_succ _) _).setCell (p := ⟨w.heap.size + 1, _, none⟩) (Nat.le_succ _) _).setCell (p := ⟨w.heap.size + 1, _, none⟩) (Nat.le_succ _) _

def immsOf (r : IRow) : Int := immOf r.a + immOf r.b
theorem immOf_lo (k : Int) : 0 ≤ immOf k := by unfold immOf; split; omega; split; omega; split <;> omega
theorem immOf_hi (k : Int) : immOf k ≤ 4 := by unfold immOf; split; omega; split; omega; split <;> omega
set_option maxHeartbeats 400000 in
theorem imms_any (r : IRow) (w : World) : Calls Tryz.prog 62 #[r.val] w fun e w' => e = .returned (.int .i64 (immsOf r)) ∧ Below w.heap.size w w' := by
  have a0 := immOf_lo r.a
  have a1 := immOf_hi r.a
  have b0 := immOf_lo r.b
  have b1 := immOf_hi r.b
  have hs : IntKind.i64.wrap (immOf r.a + immOf r.b) = immOf r.a + immOf r.b := IntWalk.i64_in _ (by omega)
  go_enter Tryz.func62, Tryz.ntmps62
  go_wp2_with fail
  go_quiet ((go_at_call 104; exact quietS (imm_any _ _)))
  go_wp2_with fail
  go_ret
  exact ⟨rfl, by (repeat (first | exact Below.refl _ _ | assumption | refine Below.setCell ?_ (by simp) _ | refine Below.alloc ?_ (by simp <;> omega) _ | refine Below.drew ?_ | refine Below.drewN ?_ | refine Below.setRow ?_ (by simp <;> omega) _))⟩
end Go.Proofs.YtcglkefaopgjeaaGreatDoor

/- Package inst, continued: second, behind, prefixes, May. -/
namespace Go.Proofs.YtcglkefaopgjeaaGreatDoor
set_option linter.unusedSimpArgs false
set_option linter.unusedVariables false
open Go.RowKit

structure Inst.wf (i : Inst) : Prop where
  op : 0 ≤ i.op ∧ i.op ≤ 255
  mod : 0 ≤ i.mod ∧ i.mod ≤ 3
  reg : 0 ≤ i.reg ∧ i.reg ≤ 7
  rm : 0 ≤ i.rm ∧ i.rm ≤ 7
  disp : 0 ≤ i.disp ∧ i.disp ≤ 65535
  imm : 0 ≤ i.imm ∧ i.imm ≤ 65535
  sel : 0 ≤ i.sel ∧ i.sel ≤ 65535

def secondB (i : Inst) (r : IRow) : Bool :=
  if r.mod = false then i.mod == 0 && i.reg == 0 && i.rm == 0 && i.disp == 0
  else if (i.mod == 3 && (r.a == 19 || r.b == 19 || r.b == 20)) then false
  else if dispsOf i.mod i.rm = 0 then i.disp == 0 else if dispsOf i.mod i.rm = 1 then fitsB i.disp else true

set_option maxRecDepth 100000 in
set_option maxHeartbeats 6400000 in
theorem second_any (i : Inst) (r : IRow) (w : World) (hi : i.wf) : Calls Tryz.prog 196 #[i.val, r.val] w fun e w' => e = .returned (.bool (secondB i r)) ∧ Below w.heap.size w w' := by
  obtain ⟨lock, rep, seg, op, mod, reg, rm, disp, imm, sel⟩ := i
  obtain ⟨rn, ra, rb, rmod⟩ := r
  have hd := hi.disp
  have hm := hi.mod
  have hg := hi.reg
  have hr := hi.rm
  dsimp only at hd hm hg hr
  have d1 : decide (mod < 0) = false := decide_eq_false (by omega)
  have d2 : decide (3 < mod) = false := decide_eq_false (by omega)
  have d3 : decide (reg < 0) = false := decide_eq_false (by omega)
  have d4 : decide (7 < reg) = false := decide_eq_false (by omega)
  have d5 : decide (rm < 0) = false := decide_eq_false (by omega)
  have d6 : decide (7 < rm) = false := decide_eq_false (by omega)
  clear hi hm hg hr
  cases rmod with
  | false =>
    have HE := Lib.hid (show secondB ⟨lock, rep, seg, op, mod, reg, rm, disp, imm, sel⟩ ⟨rn, ra, rb, false⟩ = (mod == 0 && reg == 0 && rm == 0 && disp == 0) from rfl)
    obtain ⟨b1, h1⟩ : ∃ b, (mod == 0) = b := ⟨_, rfl⟩
    obtain ⟨b2, h2⟩ : ∃ b, (reg == 0) = b := ⟨_, rfl⟩
    obtain ⟨b3, h3⟩ : ∃ b, (rm == 0) = b := ⟨_, rfl⟩
    obtain ⟨b4, h4⟩ : ∃ b, (disp == 0) = b := ⟨_, rfl⟩
    have HB := Lib.hid (show secondB ⟨lock, rep, seg, op, mod, reg, rm, disp, imm, sel⟩ ⟨rn, ra, rb, false⟩ = (b1 && b2 && b3 && b4) by rw [HE.out, h1, h2, h3, h4])
    clear HE
    cases b1 <;> cases b2 <;> cases b3
    all_goals
      go_enter Tryz.func196, Tryz.ntmps196
      go_wp2
      go_ret
      exact ⟨by rw [HB.out]; rfl, by (repeat (first | exact Below.refl _ _ | assumption | refine Below.setCell ?_ (by simp) _ | refine Below.alloc ?_ (by simp <;> omega) _ | refine Below.drew ?_ | refine Below.drewN ?_ | refine Below.setRow ?_ (by simp <;> omega) _))⟩
  | true =>
    obtain ⟨b1, h1⟩ : ∃ b, (mod == 3) = b := ⟨_, rfl⟩
    obtain ⟨b2, h2⟩ : ∃ b, (ra == 19) = b := ⟨_, rfl⟩
    obtain ⟨b3, h3⟩ : ∃ b, (rb == 19) = b := ⟨_, rfl⟩
    obtain ⟨b4, h4⟩ : ∃ b, (rb == 20) = b := ⟨_, rfl⟩
    have HB := Lib.hid (show secondB ⟨lock, rep, seg, op, mod, reg, rm, disp, imm, sel⟩ ⟨rn, ra, rb, true⟩ = if (b1 && (b2 || b3 || b4)) then false else if dispsOf mod rm = 0 then disp == 0 else if dispsOf mod rm = 1 then fitsB disp else true by rw [← h1, ← h2, ← h3, ← h4]; rfl)
    obtain ⟨dd, hdd⟩ : ∃ dd, dispsOf mod rm = dd := ⟨_, rfl⟩
    rw [hdd] at HB
    have HD := Lib.hid hdd
    have hd3 : dd = 0 ∨ dd = 1 ∨ dd = 2 := by rw [← hdd]; unfold dispsOf; split; simp; split <;> simp
    clear hdd
    cases b1
    · rcases hd3 with rfl | rfl | rfl
      all_goals
        go_enter Tryz.func196, Tryz.ntmps196
        go_wp2_with (first | (go_at_call 194; refine (disps_any _ _ _).mono ?_; rw [HD.out]; rintro e w' ⟨rfl, rfl⟩) | (go_at_call 213; refine (fits_any _ _ hd.1 hd.2).mono ?_; rintro e w' ⟨rfl, rfl⟩))
        go_ret
        exact ⟨by rw [HB.out]; rfl, by (repeat (first | exact Below.refl _ _ | assumption | refine Below.setCell ?_ (by simp) _ | refine Below.alloc ?_ (by simp <;> omega) _ | refine Below.drew ?_ | refine Below.drewN ?_ | refine Below.setRow ?_ (by simp <;> omega) _))⟩
    · cases b2 <;> cases b3 <;> cases b4
      · rcases hd3 with rfl | rfl | rfl
        all_goals
          go_enter Tryz.func196, Tryz.ntmps196
          go_wp2_with (first | (go_at_call 194; refine (disps_any _ _ _).mono ?_; rw [HD.out]; rintro e w' ⟨rfl, rfl⟩) | (go_at_call 213; refine (fits_any _ _ hd.1 hd.2).mono ?_; rintro e w' ⟨rfl, rfl⟩))
          go_ret
          exact ⟨by rw [HB.out]; rfl, by (repeat (first | exact Below.refl _ _ | assumption | refine Below.setCell ?_ (by simp) _ | refine Below.alloc ?_ (by simp <;> omega) _ | refine Below.drew ?_ | refine Below.drewN ?_ | refine Below.setRow ?_ (by simp <;> omega) _))⟩
      all_goals
        go_enter Tryz.func196, Tryz.ntmps196
        go_wp2
        go_ret
        exact ⟨by rw [HB.out]; rfl, by (repeat (first | exact Below.refl _ _ | assumption | refine Below.setCell ?_ (by simp) _ | refine Below.alloc ?_ (by simp <;> omega) _ | refine Below.drew ?_ | refine Below.drewN ?_ | refine Below.setRow ?_ (by simp <;> omega) _))⟩

def prefixesB (i : Inst) (r : IRow) : Bool :=
  (i.rep == 0 || (i.rep == 1 && decide (2 ≤ repsOf r.name)) || (i.rep == 2 && decide (1 ≤ repsOf r.name))) && decide (0 ≤ i.seg) && decide (i.seg ≤ 4)

set_option maxRecDepth 100000 in
set_option maxHeartbeats 6400000 in
theorem prefixes_any (i : Inst) (r : IRow) (w : World) : Calls Tryz.prog 198 #[i.val, r.val] w fun e w' => e = .returned (.bool (prefixesB i r)) ∧ Below w.heap.size w w' := by
  obtain ⟨lock, rep, seg, op, mod, reg, rm, disp, imm, sel⟩ := i
  obtain ⟨rn, ra, rb, rmod⟩ := r
  obtain ⟨n, hn⟩ : ∃ n, repsOf rn = n := ⟨_, rfl⟩
  have hn3 : n = 0 ∨ n = 1 ∨ n = 2 := by rw [← hn]; unfold repsOf; split; simp; split <;> simp
  have HN := Lib.hid hn
  have hr : rep = 0 ∨ rep = 1 ∨ rep = 2 ∨ ((rep == 0) = false ∧ (rep == 1) = false ∧ (rep == 2) = false) := by simp only [beq_eq_false_iff_ne]; omega
  obtain ⟨s1, hs1⟩ : ∃ b, decide (0 ≤ seg) = b := ⟨_, rfl⟩
  obtain ⟨s2, hs2⟩ : ∃ b, decide (seg ≤ 4) = b := ⟨_, rfl⟩
  have HB := Lib.hid (show prefixesB ⟨lock, rep, seg, op, mod, reg, rm, disp, imm, sel⟩ ⟨rn, ra, rb, rmod⟩ = ((rep == 0 || (rep == 1 && decide (2 ≤ n)) || (rep == 2 && decide (1 ≤ n))) && s1 && s2) by rw [prefixesB, hn, hs1, hs2])
  clear hn
  rcases hr with rfl | rfl | rfl | ⟨t0, t1, t2⟩ <;> rcases hn3 with rfl | rfl | rfl <;> cases s1
  all_goals
    go_enter Tryz.func198, Tryz.ntmps198
    go_wp2_with (go_at_call 71; refine (reps_any _ _).mono ?_; rw [HN.out]; rintro e w' ⟨rfl, rfl⟩)
    go_ret
    exact ⟨by rw [HB.out]; first | rfl | (simp only [*]; rfl), by (repeat (first | exact Below.refl _ _ | assumption | refine Below.setCell ?_ (by simp) _ | refine Below.alloc ?_ (by simp <;> omega) _ | refine Below.drew ?_ | refine Below.drewN ?_ | refine Below.setRow ?_ (by simp <;> omega) _))⟩
end Go.Proofs.YtcglkefaopgjeaaGreatDoor

/- Package inst, continued: behind, May. -/
namespace Go.Proofs.YtcglkefaopgjeaaGreatDoor
set_option linter.unusedSimpArgs false
set_option linter.unusedVariables false
open Go.RowKit

def tailB (imm sel name k : Int) : Option Bool :=
  if k = 6 then some (decide (imm < 256) && sel == 0 && ((name != 70 && name != 71) || imm == 10)) else if k = 8 ∨ k = 9 then some (fitsB imm && sel == 0) else
  if k = 7 ∨ k = 10 ∨ k = 12 ∨ k = 13 then some (sel == 0) else if k = 11 then some true else none
def behindB (i : Inst) (r : IRow) : Bool := ((tailB i.imm i.sel r.name r.a).getD ((tailB i.imm i.sel r.name r.b).getD (i.imm == 0 && i.sel == 0)))

set_option maxRecDepth 100000 in
set_option maxHeartbeats 6400000 in
theorem behind_any (i : Inst) (r : IRow) (w : World) (hi : i.wf) : Calls Tryz.prog 197 #[i.val, r.val] w fun e w' => e = .returned (.bool (behindB i r)) ∧ Below w.heap.size w w' := by
  obtain ⟨lock, rep, seg, op, mod, reg, rm, disp, imm, sel⟩ := i
  obtain ⟨rn, ra, rb, rmod⟩ := r
  have hm := hi.imm
  dsimp only at hm
  clear hi
  have HB := Lib.hid (show behindB ⟨lock, rep, seg, op, mod, reg, rm, disp, imm, sel⟩ ⟨rn, ra, rb, rmod⟩ = ((tailB imm sel rn ra).getD ((tailB imm sel rn rb).getD (imm == 0 && sel == 0))) from rfl)
  have hb0 := ((Below.refl w.heap.size w).alloc (Nat.le_refl _) (.cells #[.bool lock, .int .i64 rep, .int .i64 seg, .int .u8 op, .int .i64 mod, .int .i64 reg, .int .i64 rm, .int .u16 disp, .int .u16 imm, .int .u16 sel] 30)).alloc (by simp) (.cells #[.int .i64 rn, .int .i64 ra, .int .i64 rb, .bool rmod] 47)
  have hx := (Row.new w #[.bool lock, .int .i64 rep, .int .i64 seg, .int .u8 op, .int .i64 mod, .int .i64 reg, .int .i64 rm, .int .u16 disp, .int .u16 imm, .int .u16 sel] 30).alloc (.cells #[.int .i64 rn, .int .i64 ra, .int .i64 rb, .bool rmod] 47)
  have hy := Row.new' (w := w.alloc (.cells #[.bool lock, .int .i64 rep, .int .i64 seg, .int .u8 op, .int .i64 mod, .int .i64 reg, .int .i64 rm, .int .u16 disp, .int .u16 imm, .int .u16 sel] 30)) (n := w.heap.size + 1) (cs := #[.int .i64 rn, .int .i64 ra, .int .i64 rb, .bool rmod]) (t := 47) (by simp)
  have HB0 := Lib.hid hb0
  have HX := Lib.hid hx
  have HY := Lib.hid hy
  clear hb0 hx hy
  obtain ⟨b1, g1⟩ : ∃ b, decide (imm < 256) = b := ⟨_, rfl⟩
  obtain ⟨b2, g2⟩ : ∃ b, (sel == 0) = b := ⟨_, rfl⟩
  obtain ⟨b3, g3⟩ : ∃ b, (rn != 70) = b := ⟨_, rfl⟩
  obtain ⟨b4, g4⟩ : ∃ b, (rn != 71) = b := ⟨_, rfl⟩
  obtain ⟨b5, g5⟩ : ∃ b, (imm == 10) = b := ⟨_, rfl⟩
  obtain ⟨b6, g6⟩ : ∃ b, (imm == 0) = b := ⟨_, rfl⟩
  obtain ⟨b7, hf⟩ : ∃ b, fitsB imm = b := ⟨_, rfl⟩
  have i0 : ∀ w, (Instr.index 68 (.agg #[.int .i64 ra, .int .i64 rb]) (.int .i64 0)).run Tryz.prog w = .ok (.int .i64 ra) w := fun _ => by rfl
  have i1 : ∀ w, (Instr.index 68 (.agg #[.int .i64 ra, .int .i64 rb]) (.int .i64 1)).run Tryz.prog w = .ok (.int .i64 rb) w := fun _ => by rfl
  have T : ∀ k, tailB imm sel rn k = if k = 6 then some (b1 && b2 && ((b3 && b4) || b5)) else if k = 8 ∨ k = 9 then some (b7 && b2) else if k = 7 ∨ k = 10 ∨ k = 12 ∨ k = 13 then some b2 else if k = 11 then some true else none := by
    intro k; rw [tailB, g1, g2, g3, g4, g5, hf]
  have HB := Lib.hid (show behindB ⟨lock, rep, seg, op, mod, reg, rm, disp, imm, sel⟩ ⟨rn, ra, rb, rmod⟩ = ((tailB imm sel rn ra).getD ((tailB imm sel rn rb).getD (b6 && b2))) by rw [HB.out, g6, g2])
  have HT := Lib.hid T
  have HF := Lib.hid hf
  clear T hf
  have cls : ∀ k : Int, (k = 6 ∨ k = 8 ∨ k = 9 ∨ k = 7 ∨ k = 10 ∨ k = 12 ∨ k = 13 ∨ k = 11) ∨ (tailB imm sel rn k = none ∧ (k == 6) = false ∧ (k == 8) = false ∧ (k == 9) = false ∧ (k == 7) = false ∧ (k == 10) = false ∧ (k == 12) = false ∧ (k == 13) = false ∧ (k == 11) = false) := by
    intro k
    by_cases h : (k = 6 ∨ k = 8 ∨ k = 9 ∨ k = 7 ∨ k = 10 ∨ k = 12 ∨ k = 13 ∨ k = 11)
    · exact Or.inl h
    · refine Or.inr ⟨?_, ?_⟩
      · rw [HT.out, if_neg (by omega), if_neg (by omega), if_neg (by omega), if_neg (by omega)]
      · simp only [beq_eq_false_iff_ne]; omega
  have ha := cls ra
  have hb := cls rb
  have HCB := Lib.hid hb
  clear cls hb
  go_enter Tryz.func197, Tryz.ntmps197
  go_wp2_with fail
  generalize (w.alloc (.cells #[.bool lock, .int .i64 rep, .int .i64 seg, .int .u8 op, .int .i64 mod, .int .i64 reg, .int .i64 rm, .int .u16 disp, .int .u16 imm, .int .u16 sel] 30)).alloc (.cells #[.int .i64 rn, .int .i64 ra, .int .i64 rb, .bool rmod] 47) = W0 at *
  have xc := HX.out.cell
  have yc := HY.out.cell
  clear HX HY
  go_loop [12] (fun i => i = .int .i64 0 ∨ (i = .int .i64 1 ∧ tailB imm sel rn ra = none) ∨ (i = .int .i64 2 ∧ tailB imm sel rn ra = none ∧ tailB imm sel rn rb = none)) (fun i => 2 - (intOf i).toNat)
  case atStart => exact Or.inl rfl
  case round =>
    rcases hrel with rfl | ⟨rfl, hn⟩ | ⟨rfl, hn, hn2⟩
    · rcases ha with ha | ⟨hn, t1, t2, t3, t4, t5, t6, t7, t8⟩
      · rcases ha with rfl | rfl | rfl | rfl | rfl | rfl | rfl | rfl
        · cases b1 <;> cases b2 <;> cases b3 <;> cases b4
          all_goals
            go_wp2_with (go_at_call 213; refine (fits_any _ _ hm.1 hm.2).mono ?_; rw [HF.out]; rintro e w' ⟨rfl, rfl⟩)
            go_ret
            rw [HB.out, HT.out]
            exact ⟨by first | rfl | simp, HB0.out⟩
        · cases b7
          all_goals
            go_wp2_with (go_at_call 213; refine (fits_any _ _ hm.1 hm.2).mono ?_; rw [HF.out]; rintro e w' ⟨rfl, rfl⟩)
            go_ret
            rw [HB.out, HT.out]
            exact ⟨by first | rfl | simp, HB0.out⟩
        · cases b7
          all_goals
            go_wp2_with (go_at_call 213; refine (fits_any _ _ hm.1 hm.2).mono ?_; rw [HF.out]; rintro e w' ⟨rfl, rfl⟩)
            go_ret
            rw [HB.out, HT.out]
            exact ⟨by first | rfl | simp, HB0.out⟩
        · go_wp2_with (go_at_call 213; refine (fits_any _ _ hm.1 hm.2).mono ?_; rw [HF.out]; rintro e w' ⟨rfl, rfl⟩)
          go_ret
          rw [HB.out, HT.out]
          exact ⟨by first | rfl | simp, HB0.out⟩
        · go_wp2_with (go_at_call 213; refine (fits_any _ _ hm.1 hm.2).mono ?_; rw [HF.out]; rintro e w' ⟨rfl, rfl⟩)
          go_ret
          rw [HB.out, HT.out]
          exact ⟨by first | rfl | simp, HB0.out⟩
        · go_wp2_with (go_at_call 213; refine (fits_any _ _ hm.1 hm.2).mono ?_; rw [HF.out]; rintro e w' ⟨rfl, rfl⟩)
          go_ret
          rw [HB.out, HT.out]
          exact ⟨by first | rfl | simp, HB0.out⟩
        · go_wp2_with (go_at_call 213; refine (fits_any _ _ hm.1 hm.2).mono ?_; rw [HF.out]; rintro e w' ⟨rfl, rfl⟩)
          go_ret
          rw [HB.out, HT.out]
          exact ⟨by first | rfl | simp, HB0.out⟩
        · go_wp2_with (go_at_call 213; refine (fits_any _ _ hm.1 hm.2).mono ?_; rw [HF.out]; rintro e w' ⟨rfl, rfl⟩)
          go_ret
          rw [HB.out, HT.out]
          exact ⟨by first | rfl | simp, HB0.out⟩
      · have HN := Lib.hid hn
        clear hn
        go_wp2_with fail
        exact ⟨Or.inr (Or.inl ⟨rfl, HN.out⟩), by simp [intOf]⟩
    · have HN := Lib.hid hn
      clear hn ha
      rcases HCB.out with hb | ⟨hn, t1, t2, t3, t4, t5, t6, t7, t8⟩
      · rcases hb with rfl | rfl | rfl | rfl | rfl | rfl | rfl | rfl
        · cases b1 <;> cases b2 <;> cases b3 <;> cases b4
          all_goals
            go_wp2_with (go_at_call 213; refine (fits_any _ _ hm.1 hm.2).mono ?_; rw [HF.out]; rintro e w' ⟨rfl, rfl⟩)
            go_ret
            rw [HB.out, HN.out, HT.out]
            exact ⟨by first | rfl | simp, HB0.out⟩
        · cases b7
          all_goals
            go_wp2_with (go_at_call 213; refine (fits_any _ _ hm.1 hm.2).mono ?_; rw [HF.out]; rintro e w' ⟨rfl, rfl⟩)
            go_ret
            rw [HB.out, HN.out, HT.out]
            exact ⟨by first | rfl | simp, HB0.out⟩
        · cases b7
          all_goals
            go_wp2_with (go_at_call 213; refine (fits_any _ _ hm.1 hm.2).mono ?_; rw [HF.out]; rintro e w' ⟨rfl, rfl⟩)
            go_ret
            rw [HB.out, HN.out, HT.out]
            exact ⟨by first | rfl | simp, HB0.out⟩
        · go_wp2_with (go_at_call 213; refine (fits_any _ _ hm.1 hm.2).mono ?_; rw [HF.out]; rintro e w' ⟨rfl, rfl⟩)
          go_ret
          rw [HB.out, HN.out, HT.out]
          exact ⟨by first | rfl | simp, HB0.out⟩
        · go_wp2_with (go_at_call 213; refine (fits_any _ _ hm.1 hm.2).mono ?_; rw [HF.out]; rintro e w' ⟨rfl, rfl⟩)
          go_ret
          rw [HB.out, HN.out, HT.out]
          exact ⟨by first | rfl | simp, HB0.out⟩
        · go_wp2_with (go_at_call 213; refine (fits_any _ _ hm.1 hm.2).mono ?_; rw [HF.out]; rintro e w' ⟨rfl, rfl⟩)
          go_ret
          rw [HB.out, HN.out, HT.out]
          exact ⟨by first | rfl | simp, HB0.out⟩
        · go_wp2_with (go_at_call 213; refine (fits_any _ _ hm.1 hm.2).mono ?_; rw [HF.out]; rintro e w' ⟨rfl, rfl⟩)
          go_ret
          rw [HB.out, HN.out, HT.out]
          exact ⟨by first | rfl | simp, HB0.out⟩
        · go_wp2_with (go_at_call 213; refine (fits_any _ _ hm.1 hm.2).mono ?_; rw [HF.out]; rintro e w' ⟨rfl, rfl⟩)
          go_ret
          rw [HB.out, HN.out, HT.out]
          exact ⟨by first | rfl | simp, HB0.out⟩
      · have HN2 := Lib.hid hn
        clear hn
        go_wp2_with fail
        exact ⟨Or.inr (Or.inr ⟨rfl, HN.out, HN2.out⟩), by simp [intOf]⟩
    · have HN := Lib.hid hn
      have HN2 := Lib.hid hn2
      clear hn hn2 ha
      cases b6
      all_goals
        go_wp2_with fail
        go_ret
        rw [HB.out, HN.out, HN2.out]
        exact ⟨rfl, HB0.out⟩
end Go.Proofs.YtcglkefaopgjeaaGreatDoor

/- Package inst, continued: May. -/
namespace Go.Proofs.YtcglkefaopgjeaaGreatDoor
set_option linter.unusedSimpArgs false
set_option linter.unusedVariables false
open Go.RowKit

def mayB (i : Inst) : Bool := match instRow i.op i.reg with
  | none => false
  | some r => secondB i r && behindB i r && prefixesB i r
abbrev Inst.cells (i : Inst) : Array Value := #[.bool i.lock, .int .i64 i.rep, .int .i64 i.seg, .int .u8 i.op, .int .i64 i.mod, .int .i64 i.reg, .int .i64 i.rm, .int .u16 i.disp, .int .u16 i.imm, .int .u16 i.sel]

set_option maxRecDepth 100000 in
set_option maxHeartbeats 6400000 in
theorem may_any (i : Inst) (w : World) (hi : i.wf) : Calls Tryz.prog 151 #[i.val] w fun e w' => e = .returned (.bool (mayB i)) ∧ Below w.heap.size w w' := by
  have hx := Row.new w i.cells 30
  have HX := Lib.hid hx
  have HB0 := Lib.hid ((Below.refl w.heap.size w).alloc (Nat.le_refl _) (.cells i.cells 30))
  have xc := hx.cell
  clear hx
  cases hr : instRow i.op i.reg with
  | none =>
    have HE := Lib.hid (show mayB i = false by rw [mayB, hr])
    have HR := Lib.hid hr
    clear hr xc
    go_enter Tryz.func151, Tryz.ntmps151
    go_wp2_with fail
    refine (instRow_any i _ hi.op.1 hi.op.2 hi.reg.1 hi.reg.2).mono ?_
    rw [HR.out, rowV_none]
    rintro e w1 ⟨rfl, hb⟩; dsimp only
    have HB1 := Lib.hid (HB0.out.trans (hb.mono HB0.out.size))
    clear hb
    go_wp2_with fail
    go_ret
    rw [HE.out]
    exact ⟨rfl, HB1.out.alloc HB1.out.size _⟩
  | some r =>
    obtain ⟨rn, ra, rb, rm⟩ := r
    obtain ⟨b1, h1⟩ : ∃ b, secondB i ⟨rn, ra, rb, rm⟩ = b := ⟨_, rfl⟩
    obtain ⟨b2, h2⟩ : ∃ b, behindB i ⟨rn, ra, rb, rm⟩ = b := ⟨_, rfl⟩
    have HE := Lib.hid (show mayB i = (b1 && b2 && prefixesB i ⟨rn, ra, rb, rm⟩) by rw [mayB, hr]; dsimp only; rw [h1, h2])
    have HR := Lib.hid hr
    have H1 := Lib.hid h1
    have H2 := Lib.hid h2
    clear hr xc h1 h2
    go_enter Tryz.func151, Tryz.ntmps151
    go_wp2_with fail
    refine (instRow_any i _ hi.op.1 hi.op.2 hi.reg.1 hi.reg.2).mono ?_
    rw [HR.out, rowV_some]
    rintro e w1 ⟨rfl, hb⟩; dsimp only
    have HB1 := Lib.hid ((HB0.out.trans (hb.mono HB0.out.size)).alloc (HB0.out.trans (hb.mono HB0.out.size)).size (.cells #[.int .i64 rn, .int .i64 ra, .int .i64 rb, .bool rm] 47))
    have hx1 := (Below.row hb HX.out HX.out.lt).alloc (.cells #[.int .i64 rn, .int .i64 ra, .int .i64 rb, .bool rm] 47)
    have hy1 := Row.new w1 #[.int .i64 rn, .int .i64 ra, .int .i64 rb, .bool rm] 47
    have HX1 := Lib.hid hx1
    have HY1 := Lib.hid hy1
    have hl := (Below.row hb HX.out HX.out.lt).lt
    have xc := (Below.row hb HX.out HX.out.lt).cell
    clear hb hx1 hy1
    go_wp2_with fail
    refine (second_any i ⟨rn, ra, rb, rm⟩ _ hi).mono ?_
    rw [H1.out]
    rintro e w2 ⟨rfl, hb⟩; dsimp only
    have HB2 := Lib.hid (HB1.out.trans (hb.mono HB1.out.size))
    have HX2 := Lib.hid (Below.row hb HX1.out HX1.out.lt)
    have HY2 := Lib.hid (Below.row hb HY1.out HY1.out.lt)
    clear xc hb
    have xc := HX2.out.cell
    have yc := HY2.out.cell
    cases b1 with
    | false =>
      go_wp2_with fail
      go_ret
      rw [HE.out]
      exact ⟨rfl, HB2.out⟩
    | true =>
      go_wp2_with fail
      refine (behind_any i ⟨rn, ra, rb, rm⟩ _ hi).mono ?_
      rw [H2.out]
      rintro e w3 ⟨rfl, hb⟩; dsimp only
      have HB3 := Lib.hid (HB2.out.trans (hb.mono HB2.out.size))
      have HX3 := Lib.hid (Below.row hb HX2.out HX2.out.lt)
      have HY3 := Lib.hid (Below.row hb HY2.out HY2.out.lt)
      clear xc yc hb
      have xc := HX3.out.cell
      have yc := HY3.out.cell
      cases b2 with
      | false =>
        go_wp2_with fail
        go_ret
        rw [HE.out]
        exact ⟨rfl, HB3.out⟩
      | true =>
        go_wp2_with fail
        refine (prefixes_any i ⟨rn, ra, rb, rm⟩ _).mono ?_
        rintro e w4 ⟨rfl, hb⟩; dsimp only
        have HB4 := Lib.hid (HB3.out.trans (hb.mono HB3.out.size))
        clear xc yc hb
        go_wp2_with fail
        go_ret
        rw [HE.out]
        exact ⟨rfl, HB4.out⟩
end Go.Proofs.YtcglkefaopgjeaaGreatDoor

/- Package scan: the source of bytes: next, word. -/
namespace Go.Proofs.YtcglkefaopgjeaaGreatDoor
set_option linter.unusedSimpArgs false
set_option linter.unusedVariables false
open Go.RowKit

/-- A source of twelve bytes, so many of which are taken. -/
structure Src (w : World) (g b : Nat) (bs : Nat → Int) (n : Nat) : Prop where
  row : Row w g #[.slice (some ⟨b, 0, none⟩) 12 12, .int .i64 n] 152
  by_ : ∀ k, k < 12 → w.cell? ⟨b, k, none⟩ = some (.int .u8 (bs k))
  ne : g ≠ b
  lt : b < w.heap.size
  wf : ∀ k, 0 ≤ bs k ∧ bs k ≤ 255
abbrev one (g : Nat) : Nat → Prop := fun k => k = g
theorem Src.fr {w w' : World} {g b : Nat} {bs : Nat → Int} {n : Nat} (h : Src w g b bs n) {own : Nat → Prop} (hf : Fr own w w') (h1 : ¬ own g) (h2 : ¬ own b) : Src w' g b bs n :=
  ⟨hf.row h.row h1, fun k hk => (World.cell?_of_block (a := ⟨b, k, none⟩) (hf.block b h.lt h2)).trans (h.by_ k hk), h.ne, Nat.lt_of_lt_of_le h.lt hf.size, h.wf⟩
theorem Src.below {w w' : World} {g b : Nat} {bs : Nat → Int} {n : Nat} (h : Src w g b bs n) (hb : Below w.heap.size w w') : Src w' g b bs n := h.fr (own := fun _ => False) (Fr.of_below hb) id id
theorem Src.drewN {w : World} {g b : Nat} {bs : Nat → Int} {n m : Nat} (h : Src w g b bs n) : Src (w.drewN m) g b bs n := h.below (Below.drewN (Below.refl _ _))
theorem Src.drew {w : World} {g b : Nat} {bs : Nat → Int} {n : Nat} (h : Src w g b bs n) : Src w.drew g b bs n := h.below (Below.refl _ _).drew
theorem Src.step {w : World} {g b : Nat} {bs : Nat → Int} {n : Nat} (h : Src w g b bs n) (m : Nat) : Src (w.setCell ⟨g, 1, none⟩ (.int .i64 m)) g b bs m :=
  ⟨h.row.setCell 1 _, fun k hk => (World.cell?_of_block (a := ⟨b, k, none⟩) (Below.heap_setCell _ _ _ _ (Ne.symm h.ne))).trans (h.by_ k hk), h.ne, by simpa using h.lt, h.wf⟩

def SrcPost (w : World) (g b : Nat) (bs : Nat → Int) (n : Nat) (w' : World) : Prop := Src w' g b bs n ∧ Fr (one g) w w'

set_option maxRecDepth 100000 in
set_option maxHeartbeats 1600000 in
theorem next_byte (w : World) (g b : Nat) (bs : Nat → Int) (n : Nat) (h : Src w g b bs n) (hn : n < 12) :
    Calls Tryz.prog 193 #[.pointer (some ⟨g, 0, none⟩)] w fun e w' => e = .returned (.int .u8 (bs n)) ∧ SrcPost w g b bs (n + 1) w' := by
  have c0 : w.cell? ⟨g, 0, none⟩ = some (.slice (some ⟨b, 0, none⟩) 12 12) := h.row.cell 0
  have c1 : w.cell? ⟨g, 1, none⟩ = some (.int .i64 n) := h.row.cell 1
  have cb := h.by_ n hn
  have f1 := h.row.frozen 1
  have i0 : (0 : Int) ≤ (n : Int) := by omega
  have i1 : (n : Int) < 12 := by omega
  have i2 : ¬ (12 : Int) ≤ (n : Int) := by omega
  have H := Lib.hid h
  have HN := Lib.hid hn
  clear h hn
  go_enter Tryz.func193, Tryz.ntmps193
  go_wp2_with fail
  go_quiet (fail)
  go_wp2_with fail
  go_quiet (fail)
  go_wp2_with fail
  go_ret
  refine ⟨rfl, ?_, by (repeat (first | exact Fr.refl _ _ | assumption | refine Fr.alloc ?_ _ | refine Fr.drew ?_ | refine Fr.drewN ?_ | refine Fr.setCell ?_ (by first | exact Or.inl rfl | exact Or.inr rfl | rfl | assumption) _ | refine Fr.setRow ?_ (by first | exact Or.inl rfl | exact Or.inr rfl | rfl | assumption) _))⟩
  refine Src.step (n := n) ?_ (n + 1)
  repeat (first | exact H.out | refine Src.drewN ?_ | refine Src.drew ?_)

theorem SrcPost.trans {w w1 w2 : World} {g b : Nat} {bs : Nat → Int} {n m : Nat} (h : SrcPost w g b bs n w1) (k : SrcPost w1 g b bs m w2) : SrcPost w g b bs m w2 := ⟨k.1, h.2.trans k.2⟩

set_option maxRecDepth 100000 in
set_option maxHeartbeats 1600000 in
theorem next_word (w : World) (g b : Nat) (bs : Nat → Int) (n : Nat) (h : Src w g b bs n) (hn : n + 1 < 12) :
    Calls Tryz.prog 195 #[.pointer (some ⟨g, 0, none⟩)] w fun e w' => e = .returned (.int .u16 (bs n + 256 * bs (n + 1))) ∧ SrcPost w g b bs (n + 2) w' := by
  have H := Lib.hid h
  have wf0 := h.wf n
  have wf1 := h.wf (n + 1)
  clear h
  go_enter Tryz.func195, Tryz.ntmps195
  go_wp2_with fail
  refine (next_byte _ _ _ _ _ H.out (by omega)).mono ?_
  rintro e w1 ⟨rfl, h1⟩; dsimp only
  have H1 := Lib.hid h1
  clear h1
  go_wp2_with fail
  refine (next_byte _ _ _ _ _ H1.out.1 (by omega)).mono ?_
  rintro e w2 ⟨rfl, h2⟩; dsimp only
  have H2 := Lib.hid (H1.out.trans h2)
  clear h2
  go_wp2_with fail
  refine (bword_any _ _ _ wf0.1 wf0.2 wf1.1 wf1.2).mono ?_; rintro e w' ⟨rfl, rfl⟩; dsimp only
  go_wp2_with fail
  go_ret
  exact ⟨rfl, H2.out⟩
end Go.Proofs.YtcglkefaopgjeaaGreatDoor

/- Package scan: prefixes. -/
namespace Go.Proofs.YtcglkefaopgjeaaGreatDoor
set_option linter.unusedSimpArgs false
set_option linter.unusedVariables false
open Go.RowKit

abbrev errNo (n : Int) : Value := .iface 81 (.int .i64 n)
abbrev cry (n : Int) : Ending := .panicked [{ v := errNo n, recovered := false }]
/-- Prefixes, each kind once at most. -/
def aheadF (bs : Nat → Int) : Nat → Nat → Bool → Int → Int → Option (Int × Nat × Bool × Int × Int)
  | 0, _, _, _, _ => none
  | f + 1, n, lock, rep, seg =>
    if isPre (bs n) = false then some (bs n, n + 1, lock, rep, seg)
    else if bs n = 240 ∧ lock = false then aheadF bs f (n + 1) true rep seg
    else if 242 ≤ bs n ∧ rep = 0 then aheadF bs f (n + 1) lock (bs n - 241) seg
    else if bs n < 240 ∧ seg = 0 then aheadF bs f (n + 1) lock rep ((bs n - 38) / 8 + 1)
    else none
abbrev preI (lock : Bool) (rep seg : Int) : Inst := ⟨lock, rep, seg, 0, 0, 0, 0, 0, 0, 0⟩
abbrev two2 (g ib : Nat) : Nat → Prop := fun k => k = g ∨ k = ib
def AheadPost (w : World) (g b ib : Nat) (bs : Nat → Int) (r : Option (Int × Nat × Bool × Int × Int)) (e : Ending) (w' : World) : Prop :=
  match r with
  | some (op, n, lock, rep, seg) => e = .returned (.int .u8 op) ∧ Src w' g b bs n ∧ Row w' ib (preI lock rep seg).cells 30 ∧ Fr (two2 g ib) w w'
  | none => e = cry 3 ∧ Fr (two2 g ib) w w'
def AheadIn (w : World) (g b ib : Nat) (bs : Nat → Int) (wr : World) : Prop :=
  ∃ f n lock rep seg, aheadF bs f n lock rep seg = aheadF bs 4 0 false 0 0 ∧ n + f = 4 ∧ n = (if lock then 1 else 0) + (if rep = 0 then 0 else 1) + (if seg = 0 then 0 else 1) ∧
    Src wr g b bs n ∧ Row wr ib (preI lock rep seg).cells 30 ∧ Fr (two2 g ib) w wr
theorem Src.setOther {w : World} {g b : Nat} {bs : Nat → Int} {n : Nat} (h : Src w g b bs n) (p : Addr) (v : Value) (h1 : g ≠ p.block) (h2 : b ≠ p.block) : Src (w.setCell p v) g b bs n :=
  h.fr (own := fun k => k = p.block) ((Fr.refl (fun k => k = p.block) w).setCell (p := p) rfl v) h1 h2
theorem ahead_on {w w1 wr : World} {g b ib : Nat} {bs : Nat → Int} {f n : Nat} {lock lock1 : Bool} {rep seg rep1 seg1 : Int} {j : Nat} {v : Value} (hne : g ≠ ib) (d2 : ib ≠ b) (hn3 : n ≤ 3)
    (hf : aheadF bs (f + 1) n lock rep seg = aheadF bs 4 0 false 0 0) (hs : aheadF bs (f + 1) n lock rep seg = aheadF bs f (n + 1) lock1 rep1 seg1) (hnf : n + (f + 1) = 4)
    (hn : n + 1 = (if lock1 then 1 else 0) + (if rep1 = 0 then 0 else 1) + (if seg1 = 0 then 0 else 1)) (h1 : Src w1 g b bs (n + 1)) (hr : Row w1 ib (preI lock rep seg).cells 30) (hfr : Fr (two2 g ib) w w1)
    (hc : (preI lock rep seg).cells.setIfInBounds j v = (preI lock1 rep1 seg1).cells) (cm : wr.cell? ⟨g, 1, none⟩ = some (.int .i64 ((n : Nat) : Int))) :
    AheadIn w g b ib bs (w1.setCell ⟨ib, j, none⟩ v) ∧ 12 - (intOf (((w1.setCell ⟨ib, j, none⟩ v).cell? ⟨g, 1, none⟩).getD undef)).toNat < 12 - (intOf ((wr.cell? ⟨g, 1, none⟩).getD undef)).toNat := by
  have hs1 := h1.setOther ⟨ib, j, none⟩ v hne (Ne.symm d2)
  refine ⟨⟨f, n + 1, lock1, rep1, seg1, hs.symm.trans hf, by omega, hn, hs1, ?_, hfr.setCell (p := ⟨ib, j, none⟩) (Or.inr rfl) v⟩, ?_⟩
  · have := hr.setCell j v
    rwa [hc] at this
  · have e : (w1.setCell ⟨ib, j, none⟩ v).cell? ⟨g, 1, none⟩ = some (.int .i64 ((n + 1 : Nat) : Int)) := hs1.row.cell 1
    rw [e, cm]
    simp only [Option.getD_some, intOf]
    omega

set_option maxRecDepth 100000 in
set_option maxHeartbeats 3200000 in
theorem ahead_any (w : World) (g b ib : Nat) (bs : Nat → Int) (h : Src w g b bs 0) (hi : Row w ib (preI false 0 0).cells 30) (d1 : ib ≠ g) (d2 : ib ≠ b) :
    Calls Tryz.prog 147 #[.pointer (some ⟨g, 0, none⟩), .pointer (some ⟨ib, 0, none⟩)] w (AheadPost w g b ib bs (aheadF bs 4 0 false 0 0)) := by
  have H := Lib.hid h
  have HI := Lib.hid hi
  clear h hi
  have D1 := Lib.hid d1
  have D2 := Lib.hid d2
  clear d1 d2
  go_enter Tryz.func147, Tryz.ntmps147
  go_wp2_with fail
  go_loopw [] (fun wr => AheadIn w g b ib bs wr) (fun wr => 12 - (intOf ((wr.cell? ⟨g, 1, none⟩).getD undef)).toNat)
  case atStart => exact ⟨4, 0, false, 0, 0, rfl, rfl, rfl, H.out, HI.out, Fr.refl _ _⟩
  case round =>
    obtain ⟨f, n, lock, rep, seg, hf, hnf, hn, hs, hr, hfr⟩ := hrel
    have hn3 : n ≤ 3 := by rw [hn]; split <;> split <;> split <;> omega
    obtain ⟨f, rfl⟩ : ∃ k, f = k + 1 := ⟨f - 1, by omega⟩
    have HS := Lib.hid hs
    have HR := Lib.hid hr
    have HFR := Lib.hid hfr
    have HF := Lib.hid hf
    have HN := Lib.hid hn
    clear hf hn hs hr hfr
    go_wp2_with fail
    refine (next_byte _ _ _ _ _ HS.out (by omega)).mono ?_
    rintro e w1 ⟨rfl, h1, f1⟩; dsimp only
    have HS1 := Lib.hid h1
    have hr1 := f1.row HR.out D1.out
    have HFR1 := Lib.hid (HFR.out.trans (f1.mono (fun k hk => Or.inl hk)))
    have HR1 := Lib.hid hr1
    have rc := hr1.cell
    have rf := hr1.frozen
    have rl := hr1.lt
    clear h1 f1 hr1
    have wfb := HS.out.wf n
    obtain ⟨c, hc⟩ : ∃ c, bs n = c := ⟨_, rfl⟩
    have HC := Lib.hid hc
    rw [hc] at wfb
    rw [hc]
    clear hc
    obtain ⟨p, hp⟩ : ∃ p, isPre c = p := ⟨_, rfl⟩
    have HP := Lib.hid hp
    clear hp
    cases p with
    | false =>
      go_wp2_with (go_at_call 102; refine (isPre_any _ _).mono ?_; rw [HP.out]; rintro e w' ⟨rfl, rfl⟩)
      go_ret
      rw [← HF.out, aheadF, if_pos (by rw [HC.out, HP.out]), HC.out]
      exact ⟨rfl, HS1.out, HR1.out, HFR1.out⟩
    | true =>
      have hc7 : c = 240 ∨ (c = 242 ∨ c = 243) ∨ (c = 38 ∨ c = 46 ∨ c = 54 ∨ c = 62) := by
        have := HP.out
        simp only [isPre, Bool.or_eq_true, beq_iff_eq] at this
        omega
      have cn : w1.cell? ⟨g, 1, none⟩ = some (.int .i64 ((n + 1 : Nat) : Int)) := HS1.out.row.cell 1
      have cm : wr.cell? ⟨g, 1, none⟩ = some (.int .i64 ((n : Nat) : Int)) := HS.out.row.cell 1
      have CN := Lib.hid cn
      have CM := Lib.hid cm
      have hne : g ≠ ib := Ne.symm D1.out
      clear cn cm wfb
      rcases hc7 with rfl | hc7 | hc7
      · cases lock with
        | false =>
          go_wp2_with (go_at_call 102; refine (isPre_any _ _).mono ?_; rw [HP.out]; rintro e w' ⟨rfl, rfl⟩)
          exact ahead_on hne D2.out hn3 HF.out (by rw [aheadF, if_neg (by rw [HC.out, HP.out]; decide), if_pos (by rw [HC.out]; exact ⟨rfl, rfl⟩)]) hnf (by have := HN.out; simp_all; try omega) HS1.out HR1.out HFR1.out rfl CM.out
        | true =>
          go_wp2_with (go_at_call 102; refine (isPre_any _ _).mono ?_; rw [HP.out]; rintro e w' ⟨rfl, rfl⟩)
          refine ⟨rfl, ?_⟩
          rw [← HF.out, aheadF, if_neg (by rw [HC.out, HP.out]; decide), if_neg (by rintro ⟨_, h⟩; cases h), if_neg (by rw [HC.out]; omega), if_neg (by rw [HC.out]; omega)]
          exact ⟨rfl, HFR1.out⟩
      · by_cases hr0 : rep = 0
        · subst hr0
          rcases hc7 with rfl | rfl
          all_goals
            go_wp2_with (go_at_call 102; refine (isPre_any _ _).mono ?_; rw [HP.out]; rintro e w' ⟨rfl, rfl⟩)
            exact ahead_on hne D2.out hn3 HF.out (by rw [aheadF, if_neg (by rw [HC.out, HP.out]; decide), if_neg (by rw [HC.out]; omega), if_pos (by rw [HC.out]; omega), HC.out]) hnf (by have := HN.out; simp_all; try omega) HS1.out HR1.out HFR1.out rfl CM.out
        · have t0 : (rep == 0) = false := by simpa using hr0
          have HR0 := Lib.hid hr0
          clear hr0
          rcases hc7 with rfl | rfl
          all_goals
            go_wp2_with (go_at_call 102; refine (isPre_any _ _).mono ?_; rw [HP.out]; rintro e w' ⟨rfl, rfl⟩)
            refine ⟨rfl, ?_⟩
            rw [← HF.out, aheadF, if_neg (by rw [HC.out, HP.out]; decide), if_neg (by rw [HC.out]; omega), if_neg (by have := HR0.out; rw [HC.out]; omega), if_neg (by rw [HC.out]; omega)]
            exact ⟨rfl, HFR1.out⟩
      · by_cases hr0 : seg = 0
        · subst hr0
          rcases hc7 with rfl | rfl | rfl | rfl
          all_goals
            go_wp2_with (go_at_call 102; refine (isPre_any _ _).mono ?_; rw [HP.out]; rintro e w' ⟨rfl, rfl⟩)
            exact ahead_on hne D2.out hn3 HF.out (by rw [aheadF, if_neg (by rw [HC.out, HP.out]; decide), if_neg (by rw [HC.out]; omega), if_neg (by rw [HC.out]; omega), if_pos (by rw [HC.out]; omega), HC.out]) hnf (by have := HN.out; simp_all; try omega) HS1.out HR1.out HFR1.out rfl CM.out
        · have t0 : (seg == 0) = false := by simpa using hr0
          have HR0 := Lib.hid hr0
          clear hr0
          rcases hc7 with rfl | rfl | rfl | rfl
          all_goals
            go_wp2_with (go_at_call 102; refine (isPre_any _ _).mono ?_; rw [HP.out]; rintro e w' ⟨rfl, rfl⟩)
            refine ⟨rfl, ?_⟩
            rw [← HF.out, aheadF, if_neg (by rw [HC.out, HP.out]; decide), if_neg (by rw [HC.out]; omega), if_neg (by rw [HC.out]; omega), if_neg (by have := HR0.out; rw [HC.out]; omega)]
            exact ⟨rfl, HFR1.out⟩
end Go.Proofs.YtcglkefaopgjeaaGreatDoor

/- Package scan: second, behind. -/
namespace Go.Proofs.YtcglkefaopgjeaaGreatDoor
set_option linter.unusedSimpArgs false
set_option linter.unusedVariables false
open Go.RowKit

/-- The second byte, and how far from there. -/
def secondF (bs : Nat → Int) (n : Nat) (i : Inst) : Inst × Nat :=
  let m := bs n / 64
  let r := bs n / 8 % 8
  let x := bs n % 8
  if dispsOf m x = 1 then ({ i with mod := m, reg := r, rm := x, disp := signW (bs (n + 1)) }, n + 2)
  else if dispsOf m x = 2 then ({ i with mod := m, reg := r, rm := x, disp := bs (n + 1) + 256 * bs (n + 2) }, n + 3)
  else ({ i with mod := m, reg := r, rm := x }, n + 1)
def InstPost (w : World) (g b ib : Nat) (bs : Nat → Int) (r : Inst × Nat) (e : Ending) (w' : World) : Prop :=
  e = .returned (.tuple #[]) ∧ Src w' g b bs r.2 ∧ Row w' ib r.1.cells 30 ∧ Fr (two2 g ib) w w'

theorem disps3 (m x : Int) : dispsOf m x = 0 ∨ dispsOf m x = 1 ∨ dispsOf m x = 2 := by unfold dispsOf; split; simp; split <;> simp

set_option maxRecDepth 100000 in
set_option maxHeartbeats 3200000 in
theorem scanSecond_any (w : World) (g b ib : Nat) (bs : Nat → Int) (n : Nat) (i : Inst) (h : Src w g b bs n) (hn : n + 2 < 12) (hi : Row w ib i.cells 30) (hd0 : i.disp = 0) (d1 : ib ≠ g) (d2 : ib ≠ b) :
    Calls Tryz.prog 149 #[.pointer (some ⟨g, 0, none⟩), .pointer (some ⟨ib, 0, none⟩)] w (InstPost w g b ib bs (secondF bs n i)) := by
  have H := Lib.hid h
  have HI := Lib.hid hi
  have D1 := Lib.hid d1
  have D2 := Lib.hid d2
  have wf0 := h.wf n
  have wf1 := h.wf (n + 1)
  have HX := Lib.hid (disps3 (bs n / 64) (bs n % 8))
  have hk1 : bits .and .i64 (bs n / 8) 7 = bs n / 8 % 8 := i64_and7 _
  have hk2 : bits .and .i64 (bs n) 7 = bs n % 8 := i64_and7 _
  have D0 := Lib.hid hd0
  clear h hi d1 d2 hd0
  obtain ⟨lock, rep, seg, op, mod, reg, rm, disp, imm, sel⟩ := i
  go_enter Tryz.func149, Tryz.ntmps149
  go_wp2_with fail
  refine (next_byte _ _ _ _ _ H.out (by omega)).mono ?_
  rintro e w1 ⟨rfl, h1, f1⟩; dsimp only
  have HS1 := Lib.hid h1
  have hr1 := f1.row HI.out D1.out
  have HFR1 := Lib.hid (f1.mono (fun k hk => Or.inl hk) : Fr (two2 g ib) w w1)
  have HR1 := Lib.hid hr1
  have rc := hr1.cell
  have rf := hr1.frozen
  have rl := hr1.lt
  clear h1 f1 hr1
  go_wp2_with fail
  have hs2 := ((HS1.out.setOther ⟨ib, 4, none⟩ (.int .i64 (bs n / 64)) (Ne.symm D1.out) (Ne.symm D2.out)).setOther ⟨ib, 5, none⟩ (.int .i64 (bs n / 8 % 8)) (Ne.symm D1.out) (Ne.symm D2.out)).setOther ⟨ib, 6, none⟩ (.int .i64 (bs n % 8)) (Ne.symm D1.out) (Ne.symm D2.out)
  have hr2 : Row _ ib (⟨lock, rep, seg, op, bs n / 64, bs n / 8 % 8, bs n % 8, disp, imm, sel⟩ : Inst).cells 30 := ((HR1.out.setCell 4 (.int .i64 (bs n / 64))).setCell 5 (.int .i64 (bs n / 8 % 8))).setCell 6 (.int .i64 (bs n % 8))
  have hf2 := ((HFR1.out.setCell (p := ⟨ib, 4, none⟩) (Or.inr rfl) (.int .i64 (bs n / 64))).setCell (p := ⟨ib, 5, none⟩) (Or.inr rfl) (.int .i64 (bs n / 8 % 8))).setCell (p := ⟨ib, 6, none⟩) (Or.inr rfl) (.int .i64 (bs n % 8))
  clear rc rf rl
  generalize ((w1.setCell ⟨ib, 4, none⟩ (.int .i64 (bs n / 64))).setCell ⟨ib, 5, none⟩ (.int .i64 (bs n / 8 % 8))).setCell ⟨ib, 6, none⟩ (.int .i64 (bs n % 8)) = w2 at hs2 hr2 hf2 ⊢
  have HS2 := Lib.hid hs2
  have HR2 := Lib.hid hr2
  have HFR2 := Lib.hid hf2
  have c4 : w2.cell? ⟨ib, 4, none⟩ = some (.int .i64 (bs n / 64)) := hr2.cell 4
  have c6 : w2.cell? ⟨ib, 6, none⟩ = some (.int .i64 (bs n % 8)) := hr2.cell 6
  clear hs2 hr2 hf2
  obtain ⟨dd, hdd⟩ : ∃ dd, dispsOf (bs n / 64) (bs n % 8) = dd := ⟨_, rfl⟩
  have hX := HX.out
  rw [hdd] at hX
  have HD := Lib.hid hdd
  have HE := Lib.hid (show secondF bs n ⟨lock, rep, seg, op, mod, reg, rm, disp, imm, sel⟩ = if dd = 1 then (⟨lock, rep, seg, op, bs n / 64, bs n / 8 % 8, bs n % 8, signW (bs (n + 1)), imm, sel⟩, n + 2) else if dd = 2 then (⟨lock, rep, seg, op, bs n / 64, bs n / 8 % 8, bs n % 8, bs (n + 1) + 256 * bs (n + 2), imm, sel⟩, n + 3) else (⟨lock, rep, seg, op, bs n / 64, bs n / 8 % 8, bs n % 8, disp, imm, sel⟩, n + 1) by rw [← hdd]; rfl)
  have kd : ∀ w, Calls Tryz.prog 194 #[.int .i64 (bs n / 64), .int .i64 (bs n % 8)] w fun e w' => e = .returned (.int .i64 dd) ∧ w = w' := fun w => hdd ▸ disps_any _ _ w
  have KD := Lib.hid kd
  clear hdd kd
  go_quiet ((go_at_call 194; exact quietS (KD.out _)))
  have HS3 := Lib.hid (HS2.out.drewN (m := nq))
  have HR3 := Lib.hid (HR2.out.drewN (n := nq))
  have HFR3 := Lib.hid (HFR2.out.drewN (n := nq))
  clear c4 c6
  generalize w2.drewN nq = w3 at HS3 HR3 HFR3 ⊢
  rcases hX with rfl | rfl | rfl
  · go_wp2_with fail
    go_end0
    rw [HE.out, if_neg (by decide), if_neg (by decide)]
    exact ⟨rfl, HS3.out, HR3.out, HFR3.out⟩
  · go_wp2_with fail
    refine (next_byte _ _ _ _ _ HS3.out (by omega)).mono ?_
    rintro e w4 ⟨rfl, h4, f4⟩; dsimp only
    have HS4 := Lib.hid h4
    have hr4 := f4.row HR3.out D1.out
    have HFR4 := Lib.hid (HFR3.out.trans (f4.mono (fun k hk => Or.inl hk)))
    have HR4 := Lib.hid hr4
    have rc := hr4.cell
    have rf := hr4.frozen
    have rl := hr4.lt
    clear h4 f4 hr4
    go_wp2_with fail
    refine (sign_any _ _ wf1.1 wf1.2).mono ?_; rintro e w' ⟨rfl, rfl⟩; dsimp only
    go_wp2_with fail
    go_end0
    rw [HE.out, if_pos trivial]
    exact ⟨rfl, HS4.out.setOther ⟨ib, 7, none⟩ _ (Ne.symm D1.out) (Ne.symm D2.out), HR4.out.setCell 7 _, HFR4.out.setCell (p := ⟨ib, 7, none⟩) (Or.inr rfl) _⟩
  · go_wp2_with fail
    refine (next_word _ _ _ _ _ HS3.out (by omega)).mono ?_
    rintro e w4 ⟨rfl, h4, f4⟩; dsimp only
    have HS4 := Lib.hid h4
    have hr4 := f4.row HR3.out D1.out
    have HFR4 := Lib.hid (HFR3.out.trans (f4.mono (fun k hk => Or.inl hk)))
    have HR4 := Lib.hid hr4
    have rc := hr4.cell
    have rf := hr4.frozen
    have rl := hr4.lt
    clear h4 f4 hr4
    go_wp2_with fail
    go_end0
    rw [HE.out, if_neg (by decide), if_pos trivial]
    exact ⟨rfl, HS4.out.setOther ⟨ib, 7, none⟩ _ (Ne.symm D1.out) (Ne.symm D2.out), HR4.out.setCell 7 _, HFR4.out.setCell (p := ⟨ib, 7, none⟩) (Or.inr rfl) _⟩

/-- What stands behind. -/
def behindF (bs : Nat → Int) (n : Nat) (i : Inst) (r : IRow) : Inst × Nat :=
  if immsOf r = 1 then ({ i with imm := if r.a = 9 ∨ r.b = 8 then signW (bs n) else bs n }, n + 1)
  else if immsOf r = 2 then ({ i with imm := bs n + 256 * bs (n + 1) }, n + 2)
  else if immsOf r = 4 then ({ i with imm := bs n + 256 * bs (n + 1), sel := bs (n + 2) + 256 * bs (n + 3) }, n + 4)
  else (i, n)

set_option maxRecDepth 100000 in
set_option maxHeartbeats 3200000 in
theorem scanBehind_any (w : World) (g b ib : Nat) (bs : Nat → Int) (n : Nat) (i : Inst) (r : IRow) (h : Src w g b bs n) (hn : n + 3 < 12) (hi : Row w ib i.cells 30) (d1 : ib ≠ g) (d2 : ib ≠ b) :
    Calls Tryz.prog 150 #[.pointer (some ⟨g, 0, none⟩), .pointer (some ⟨ib, 0, none⟩), r.val] w (InstPost w g b ib bs (behindF bs n i r)) := by
  obtain ⟨lock, rep, seg, op, mod, reg, rm, disp, imm, sel⟩ := i
  obtain ⟨rn, ra, rb, rmod⟩ := r
  have lg := h.row.lt
  have lb := h.lt
  have li := hi.lt
  have wf0 := h.wf n
  have hb0 := (Below.refl w.heap.size w).alloc (Nat.le_refl _) (.cells #[.int .i64 rn, .int .i64 ra, .int .i64 rb, .bool rmod] 47)
  have HS0 := Lib.hid (h.below hb0)
  have HR0 := Lib.hid (Below.row hb0 hi hi.lt)
  have HX0 := Lib.hid (Row.new w #[.int .i64 rn, .int .i64 ra, .int .i64 rb, .bool rmod] 47)
  have HFR0 := Lib.hid (Fr.of_below hb0 : Fr (two2 g ib) w _)
  have DX := Lib.hid (show ¬ two2 g ib w.heap.size from by rintro (e | e) <;> omega)
  have D1 := Lib.hid d1
  have D2 := Lib.hid d2
  clear h hi hb0 d1 d2 lg lb li
  have HE := Lib.hid (show behindF bs n ⟨lock, rep, seg, op, mod, reg, rm, disp, imm, sel⟩ ⟨rn, ra, rb, rmod⟩ = if immsOf ⟨rn, ra, rb, rmod⟩ = 1 then (⟨lock, rep, seg, op, mod, reg, rm, disp, if ra = 9 ∨ rb = 8 then signW (bs n) else bs n, sel⟩, n + 1) else if immsOf ⟨rn, ra, rb, rmod⟩ = 2 then (⟨lock, rep, seg, op, mod, reg, rm, disp, bs n + 256 * bs (n + 1), sel⟩, n + 2) else if immsOf ⟨rn, ra, rb, rmod⟩ = 4 then (⟨lock, rep, seg, op, mod, reg, rm, disp, bs n + 256 * bs (n + 1), bs (n + 2) + 256 * bs (n + 3)⟩, n + 4) else (⟨lock, rep, seg, op, mod, reg, rm, disp, imm, sel⟩, n) from rfl)
  obtain ⟨nb, hnb⟩ : ∃ nb, immsOf ⟨rn, ra, rb, rmod⟩ = nb := ⟨_, rfl⟩
  rw [hnb] at HE
  have HNB := Lib.hid hnb
  clear hnb
  go_enter Tryz.func150, Tryz.ntmps150
  go_wp2_with fail
  refine (imms_any ⟨rn, ra, rb, rmod⟩ _).mono ?_
  rw [HNB.out]
  rintro e w1 ⟨rfl, hb⟩; dsimp only
  have HS1 := Lib.hid (HS0.out.below hb)
  have HR1 := Lib.hid (Below.row hb HR0.out HR0.out.lt)
  have HX1 := Lib.hid (Below.row hb HX0.out HX0.out.lt)
  have HFR1 := Lib.hid (HFR0.out.trans (Fr.of_below hb))
  clear hb
  have cases4 : nb = 1 ∨ nb = 2 ∨ nb = 4 ∨ ((nb == 1) = false ∧ (nb == 2) = false ∧ (nb == 4) = false) := by simp only [beq_eq_false_iff_ne]; omega
  rcases cases4 with rfl | rfl | rfl | ⟨t1, t2, t4⟩
  · go_wp2_with fail
    refine (next_byte _ _ _ _ _ HS1.out (by omega)).mono ?_
    rintro e w2 ⟨rfl, h2, f2⟩; dsimp only
    have HS2 := Lib.hid h2
    have hr2 := f2.row HR1.out D1.out
    have hx2 := f2.row HX1.out (fun e => DX.out (Or.inl e))
    have HFR2 := Lib.hid (HFR1.out.trans (f2.mono (fun k hk => Or.inl hk)))
    have HR2 := Lib.hid hr2
    have HX2 := Lib.hid hx2
    have rc := hr2.cell
    have rf := hr2.frozen
    have rl := hr2.lt
    have xc := hx2.cell
    clear h2 f2 hr2 hx2
    have hww : IntKind.u16.wrap (bs n) = bs n := by rw [IntKind.wrap_u16]; omega
    have hne : w.heap.size ≠ ib := fun e => DX.out (Or.inr e)
    obtain ⟨p1, hp1⟩ : ∃ p, (ra == 9) = p := ⟨_, rfl⟩
    obtain ⟨p2, hp2⟩ : ∃ p, (rb == 8) = p := ⟨_, rfl⟩
    have HE2 := Lib.hid (show behindF bs n ⟨lock, rep, seg, op, mod, reg, rm, disp, imm, sel⟩ ⟨rn, ra, rb, rmod⟩ = (⟨lock, rep, seg, op, mod, reg, rm, disp, if (p1 || p2) then signW (bs n) else bs n, sel⟩, n + 1) from by
      rw [HE.out, if_pos (by trivial)]
      have : (ra = 9 ∨ rb = 8) ↔ (p1 || p2) = true := by rw [← hp1, ← hp2]; simp
      simp only [this])
    have hl : bs n % 256 = bs n := by omega
    cases p1 <;> cases p2
    all_goals
      go_wp2_with (first | (go_at_call 85; refine (low_any _ _ (by omega) (by omega)).mono ?_; rintro e w' ⟨rfl, rfl⟩) | (go_at_call 183; refine (sign_any _ _ (by omega) (by omega)).mono ?_; rintro e w' ⟨rfl, rfl⟩))
      go_end0
      rw [HE2.out]
      first
        | exact ⟨rfl, HS2.out.setOther ⟨ib, 8, none⟩ _ (Ne.symm D1.out) (Ne.symm D2.out), HR2.out.setCell 8 _, HFR2.out.setCell (p := ⟨ib, 8, none⟩) (Or.inr rfl) _⟩
        | exact ⟨rfl, (HS2.out.setOther ⟨ib, 8, none⟩ _ (Ne.symm D1.out) (Ne.symm D2.out)).setOther ⟨ib, 8, none⟩ _ (Ne.symm D1.out) (Ne.symm D2.out), (HR2.out.setCell 8 _).setCell 8 _, (HFR2.out.setCell (p := ⟨ib, 8, none⟩) (Or.inr rfl) _).setCell (p := ⟨ib, 8, none⟩) (Or.inr rfl) _⟩
  · go_wp2_with fail
    refine (next_word _ _ _ _ _ HS1.out (by omega)).mono ?_
    rintro e w2 ⟨rfl, h2, f2⟩; dsimp only
    have HS2 := Lib.hid h2
    have hr2 := f2.row HR1.out D1.out
    have HFR2 := Lib.hid (HFR1.out.trans (f2.mono (fun k hk => Or.inl hk)))
    have HR2 := Lib.hid hr2
    have rc := hr2.cell
    have rf := hr2.frozen
    have rl := hr2.lt
    clear h2 f2 hr2
    go_wp2_with fail
    go_end0
    rw [HE.out, if_neg (by decide), if_pos trivial]
    exact ⟨rfl, HS2.out.setOther ⟨ib, 8, none⟩ _ (Ne.symm D1.out) (Ne.symm D2.out), HR2.out.setCell 8 _, HFR2.out.setCell (p := ⟨ib, 8, none⟩) (Or.inr rfl) _⟩
  · go_wp2_with fail
    refine (next_word _ _ _ _ _ HS1.out (by omega)).mono ?_
    rintro e w2 ⟨rfl, h2, f2⟩; dsimp only
    have HS2 := Lib.hid h2
    have hr2 := f2.row HR1.out D1.out
    have HFR2 := Lib.hid (HFR1.out.trans (f2.mono (fun k hk => Or.inl hk)))
    have HR2 := Lib.hid hr2
    have rc := hr2.cell
    have rf := hr2.frozen
    have rl := hr2.lt
    clear h2 f2 hr2
    go_wp2_with fail
    have HS3 := Lib.hid (HS2.out.setOther ⟨ib, 8, none⟩ (.int .u16 (bs n + 256 * bs (n + 1))) (Ne.symm D1.out) (Ne.symm D2.out))
    have HR3 := Lib.hid (HR2.out.setCell 8 (.int .u16 (bs n + 256 * bs (n + 1))))
    have HFR3 := Lib.hid (HFR2.out.setCell (p := ⟨ib, 8, none⟩) (Or.inr rfl) (.int .u16 (bs n + 256 * bs (n + 1))))
    clear rc rf rl
    refine (next_word _ _ _ _ _ HS3.out (by omega)).mono ?_
    rintro e w4 ⟨rfl, h2, f2⟩; dsimp only
    have HS4 := Lib.hid h2
    have hr2 := f2.row HR3.out D1.out
    have HFR4 := Lib.hid (HFR3.out.trans (f2.mono (fun k hk => Or.inl hk)))
    have HR4 := Lib.hid hr2
    have rc := hr2.cell
    have rf := hr2.frozen
    have rl := hr2.lt
    clear h2 f2 hr2
    go_wp2_with fail
    go_end0
    rw [HE.out, if_neg (by decide), if_neg (by decide), if_pos trivial]
    exact ⟨rfl, HS4.out.setOther ⟨ib, 9, none⟩ _ (Ne.symm D1.out) (Ne.symm D2.out), HR4.out.setCell 9 _, HFR4.out.setCell (p := ⟨ib, 9, none⟩) (Or.inr rfl) _⟩
  · have N1 := Lib.hid (show ¬ nb = 1 by simpa using t1)
    have N2 := Lib.hid (show ¬ nb = 2 by simpa using t2)
    have N4 := Lib.hid (show ¬ nb = 4 by simpa using t4)
    go_wp2_with fail
    go_end0
    rw [HE.out, if_neg N1.out, if_neg N2.out, if_neg N4.out]
    exact ⟨rfl, HS1.out, HR1.out, HFR1.out⟩
end Go.Proofs.YtcglkefaopgjeaaGreatDoor

/- Package scan: take. -/
namespace Go.Proofs.YtcglkefaopgjeaaGreatDoor
set_option linter.unusedSimpArgs false
set_option linter.unusedVariables false
open Go.RowKit

abbrev opI (op : Int) (lock : Bool) (rep seg : Int) : Inst := ⟨lock, rep, seg, op, 0, 0, 0, 0, 0, 0⟩
def twoF (bs : Nat → Int) (op : Int) (n : Nat) (lock : Bool) (rep seg : Int) : Inst × Nat := if twoOf op then secondF bs n (opI op lock rep seg) else (opI op lock rep seg, n)
def restF (bs : Nat → Int) (p : Inst × Nat) : Option (Inst × Nat) :=
  match isaOf p.1.op p.1.reg with
  | none => none
  | some r => if mayB (behindF bs p.2 p.1 r).1 then some (behindF bs p.2 p.1 r) else none
def takeF (bs : Nat → Int) : Option (Inst × Nat) :=
  match aheadF bs 4 0 false 0 0 with
  | none => none
  | some (op, n, lock, rep, seg) => restF bs (twoF bs op n lock rep seg)

theorem aheadF_wf {bs : Nat → Int} (hb : ∀ k, 0 ≤ bs k ∧ bs k ≤ 255) (f : Nat) : ∀ (n : Nat) (lock : Bool) (rep seg : Int) (op : Int) (m : Nat) (lock' : Bool) (rep' seg' : Int), aheadF bs f n lock rep seg = some (op, m, lock', rep', seg') → m ≤ n + f ∧ 0 ≤ op ∧ op ≤ 255 := by
  induction f with
  | zero => intro n lock rep seg op m lock' rep' seg' h; cases h
  | succ f ih =>
    intro n lock rep seg op m lock' rep' seg' h
    rw [aheadF] at h
    split at h
    · simp only [Option.some.injEq, Prod.mk.injEq] at h
      obtain ⟨rfl, rfl, _⟩ := h
      have := hb n
      omega
    · split at h
      · have := ih _ _ _ _ _ _ _ _ _ h; omega
      · split at h
        · have := ih _ _ _ _ _ _ _ _ _ h; omega
        · split at h
          · have := ih _ _ _ _ _ _ _ _ _ h; omega
          · cases h

theorem secondF_wf {bs : Nat → Int} (hb : ∀ k, 0 ≤ bs k ∧ bs k ≤ 255) (n : Nat) (i : Inst) (hi : i.wf) : (secondF bs n i).1.wf ∧ (secondF bs n i).2 ≤ n + 3 ∧ (secondF bs n i).1.op = i.op := by
  have h0 := hb n
  have h1 := hb (n + 1)
  have h2 := hb (n + 2)
  have s0 := signW_lo (bs (n + 1)) h1.1
  have s1 := signW_hi (bs (n + 1)) h1.2
  unfold secondF
  dsimp only
  split
  · exact ⟨⟨hi.op, by dsimp only; omega, by dsimp only; omega, by dsimp only; omega, ⟨s0, s1⟩, hi.imm, hi.sel⟩, by dsimp only; omega, rfl⟩
  · split
    · exact ⟨⟨hi.op, by dsimp only; omega, by dsimp only; omega, by dsimp only; omega, by dsimp only; omega, hi.imm, hi.sel⟩, by dsimp only; omega, rfl⟩
    · exact ⟨⟨hi.op, by dsimp only; omega, by dsimp only; omega, by dsimp only; omega, hi.disp, hi.imm, hi.sel⟩, by dsimp only; omega, rfl⟩
theorem behindF_wf {bs : Nat → Int} (hb : ∀ k, 0 ≤ bs k ∧ bs k ≤ 255) (n : Nat) (i : Inst) (r : IRow) (hi : i.wf) : (behindF bs n i r).1.wf := by
  have h0 := hb n
  have h1 := hb (n + 1)
  have h2 := hb (n + 2)
  have h3 := hb (n + 3)
  have s0 := signW_lo (bs n) h0.1
  have s1 := signW_hi (bs n) h0.2
  unfold behindF
  split
  · refine ⟨hi.op, hi.mod, hi.reg, hi.rm, hi.disp, ?_, hi.sel⟩
    dsimp only
    split <;> omega
  · split
    · exact ⟨hi.op, hi.mod, hi.reg, hi.rm, hi.disp, by dsimp only; omega, hi.sel⟩
    · split
      · exact ⟨hi.op, hi.mod, hi.reg, hi.rm, hi.disp, by dsimp only; omega, by dsimp only; omega⟩
      · exact hi

def TakePost (w : World) (g b : Nat) (bs : Nat → Int) (r : Option (Inst × Nat)) (e : Ending) (w' : World) : Prop :=
  match r with
  | some (i, n) => e = .returned i.val ∧ Src w' g b bs n ∧ Fr (one g) w w'
  | none => e = cry 3 ∧ Fr (one g) w w'
theorem Fr.shrink {w w' : World} {g ib : Nat} (h : Fr (two2 g ib) w w') (hi : w.heap.size ≤ ib) : Fr (one g) w w' :=
  ⟨h.os, h.tape, h.output, h.size, fun k hk ho => h.block k hk (by rintro (e | e); exact ho e; omega)⟩

theorem Fr.join {a m c : World} {g ib : Nat} (h : Fr (one g) a m) (k : Fr (two2 g ib) m c) (hi : a.heap.size ≤ ib) : Fr (one g) a c := ((h.mono (fun _ hk => Or.inl hk)).trans k).shrink hi
theorem Fr.one_two {a m : World} {g : Nat} (ib : Nat) (h : Fr (one g) a m) : Fr (two2 g ib) a m := h.mono (fun _ hk => Or.inl hk)

theorem row_inst {w : World} {x : Nat} {c : Inst} (j : Inst) (h : Row w x c.cells 30) :
    Row ((((((((((w.setCell ⟨x, 0, none⟩ (.bool j.lock)).setCell ⟨x, 1, none⟩ (.int .i64 j.rep)).setCell ⟨x, 2, none⟩ (.int .i64 j.seg)).setCell ⟨x, 3, none⟩ (.int .u8 j.op)).setCell ⟨x, 4, none⟩ (.int .i64 j.mod)).setCell ⟨x, 5, none⟩ (.int .i64 j.reg)).setCell ⟨x, 6, none⟩ (.int .i64 j.rm)).setCell ⟨x, 7, none⟩ (.int .u16 j.disp)).setCell ⟨x, 8, none⟩ (.int .u16 j.imm)).setCell ⟨x, 9, none⟩ (.int .u16 j.sel)) x j.cells 30 := by
  have hz := (((((((((h.setCell 0 (.bool j.lock)).setCell 1 (.int .i64 j.rep)).setCell 2 (.int .i64 j.seg)).setCell 3 (.int .u8 j.op)).setCell 4 (.int .i64 j.mod)).setCell 5 (.int .i64 j.reg)).setCell 6 (.int .i64 j.rm)).setCell 7 (.int .u16 j.disp)).setCell 8 (.int .u16 j.imm)).setCell 9 (.int .u16 j.sel)
  simpa [Inst.cells] using hz

set_option maxRecDepth 100000 in
set_option maxHeartbeats 3200000 in
theorem take_any (w : World) (g b : Nat) (bs : Nat → Int) (h : Src w g b bs 0) :
    Calls Tryz.prog 99 #[.pointer (some ⟨g, 0, none⟩)] w (TakePost w g b bs (takeF bs)) := by
  have lg := h.row.lt
  have lb := h.lt
  have hwf := h.wf
  have zI : (preI false 0 0).cells = #[.bool false, .int .i64 0, .int .i64 0, .int .u8 0, .int .i64 0, .int .i64 0, .int .i64 0, .int .u16 0, .int .u16 0, .int .u16 0] := rfl
  have hb0 := ((Below.refl w.heap.size w).alloc (Nat.le_refl _) (.cells (preI false 0 0).cells 30)).alloc (by simp) (.cells (preI false 0 0).cells 30)
  have HS0 := Lib.hid (h.below hb0)
  have HI0 := Lib.hid (Row.new' (w := w.alloc (.cells (preI false 0 0).cells 30)) (n := w.heap.size + 1) (cs := (preI false 0 0).cells) (t := 30) (by simp))
  have HX0 := Lib.hid ((Row.new w (preI false 0 0).cells 30).alloc (.cells (preI false 0 0).cells 30))
  have HFR0 := Lib.hid (Fr.of_below hb0 : Fr (one g) w _)
  have D1 := Lib.hid (show w.heap.size + 1 ≠ g by omega)
  have D2 := Lib.hid (show w.heap.size + 1 ≠ b by omega)
  have D3 := Lib.hid (show ¬ two2 g (w.heap.size + 1) w.heap.size from by rintro (e | e) <;> omega)
  have D4 := Lib.hid (show g ≠ w.heap.size by omega)
  have D5 := Lib.hid (show b ≠ w.heap.size by omega)
  have HWF := Lib.hid hwf
  clear h lg lb hb0 hwf zI
  go_enter Tryz.func99, Tryz.ntmps99
  go_wp2_with fail
  refine (ahead_any _ g b (w.heap.size + 1) bs HS0.out HI0.out D1.out D2.out).mono ?_
  cases ha : aheadF bs 4 0 false 0 0 with
  | none =>
    have HT := Lib.hid (show takeF bs = none by rw [takeF, ha])
    clear ha
    rintro e w1 ⟨rfl, f1⟩; dsimp only
    refine ⟨rfl, ?_⟩
    rw [HT.out]
    exact ⟨rfl, HFR0.out.join f1 (by omega)⟩
  | some p =>
    obtain ⟨op, n, lock, rep, seg⟩ := p
    have hwf := aheadF_wf HWF.out 4 0 false 0 0 op n lock rep seg ha
    obtain ⟨p, hp⟩ : ∃ p, twoF bs op n lock rep seg = p := ⟨_, rfl⟩
    have HT := Lib.hid (show takeF bs = restF bs p by rw [takeF, ha, ← hp])
    have i0wf : (opI op lock rep seg).wf := ⟨⟨hwf.2.1, hwf.2.2⟩, ⟨by show (0 : Int) ≤ 0; omega, by show (0 : Int) ≤ 3; omega⟩, ⟨by show (0 : Int) ≤ 0; omega, by show (0 : Int) ≤ 7; omega⟩, ⟨by show (0 : Int) ≤ 0; omega, by show (0 : Int) ≤ 7; omega⟩, ⟨by show (0 : Int) ≤ 0; omega, by show (0 : Int) ≤ 65535; omega⟩, ⟨by show (0 : Int) ≤ 0; omega, by show (0 : Int) ≤ 65535; omega⟩, ⟨by show (0 : Int) ≤ 0; omega, by show (0 : Int) ≤ 65535; omega⟩⟩
    have hpw : p.1.wf ∧ p.2 ≤ 7 ∧ p.1.op = op := by
      rw [← hp, twoF]
      split
      · have := secondF_wf HWF.out n _ i0wf
        exact ⟨this.1, by omega, this.2.2⟩
      · exact ⟨i0wf, by dsimp only; omega, rfl⟩
    have HP := Lib.hid hp
    have HPW := Lib.hid hpw
    clear ha i0wf hp hpw
    rintro e w1 ⟨rfl, h1, r1, f1⟩; dsimp only
    have HS1 := Lib.hid (h1.setOther ⟨w.heap.size + 1, 3, none⟩ (.int .u8 op) (Ne.symm D1.out) (Ne.symm D2.out))
    have HI1 := Lib.hid (show Row _ _ (opI op lock rep seg).cells 30 from r1.setCell 3 (.int .u8 op))
    have HX1 := Lib.hid ((f1.row HX0.out D3.out).setCell_other ⟨w.heap.size + 1, 3, none⟩ (.int .u8 op) (by simp))
    have HFR1 := Lib.hid ((HFR0.out.join f1 (by omega)).setNew (p := ⟨w.heap.size + 1, 3, none⟩) (by simp) (.int .u8 op))
    have rc := r1.cell
    have rf := r1.frozen
    have rl := r1.lt
    clear h1 r1 f1
    go_wp2_with fail
    clear rc rf rl
    generalize w1.setCell ⟨w.heap.size + 1, 3, none⟩ (.int .u8 op) = w2 at HS1 HI1 HX1 HFR1 ⊢
    refine (two_any op _ hwf.2.1 hwf.2.2).mono ?_
    obtain ⟨tw, htw⟩ : ∃ tw, twoOf op = tw := ⟨_, rfl⟩
    have HTW := Lib.hid htw
    rw [htw]
    clear htw
    rintro e w3 ⟨rfl, hb⟩; dsimp only
    have HS3 := Lib.hid (HS1.out.below hb)
    have HI3 := Lib.hid (Below.row hb HI1.out HI1.out.lt)
    have HX3 := Lib.hid (Below.row hb HX1.out HX1.out.lt)
    have HFR3 := Lib.hid (HFR1.out.trans (Fr.of_below hb))
    clear hb
    go_upto_if 11 with fail
    go_cut [] (fun wx => Src wx g b bs p.2 ∧ Row wx (w.heap.size + 1) p.1.cells 30 ∧ Row wx w.heap.size (preI false 0 0).cells 30 ∧ Fr (one g) w wx)
    case first =>
      cases tw with
      | false =>
        have HQ := Lib.hid (show (opI op lock rep seg, n) = p from by rw [← HP.out, twoF, HTW.out]; rfl)
        go_wp2_with fail
        go_meet
        rw [← HQ.out]
        exact ⟨HS3.out, HI3.out, HX3.out, HFR3.out⟩
      | true =>
        have HQ := Lib.hid (show secondF bs n (opI op lock rep seg) = p from by rw [← HP.out, twoF, HTW.out]; rfl)
        go_wp2_with fail
        refine (scanSecond_any _ g b (w.heap.size + 1) bs n _ HS3.out (by omega) HI3.out rfl D1.out D2.out).mono ?_
        rw [HQ.out]
        rintro e w4 ⟨rfl, h4, r4, f4⟩; dsimp only
        have H4 := Lib.hid h4
        have R4 := Lib.hid r4
        have X4 := Lib.hid (f4.row HX3.out D3.out)
        have F4 := Lib.hid (HFR3.out.join f4 (by omega))
        clear h4 r4 f4
        go_wp2_with fail
        go_meet
        exact ⟨H4.out, R4.out, X4.out, F4.out⟩
    case rest =>
      obtain ⟨h4, r4, x4, f4⟩ := hcut
      obtain ⟨i, m⟩ := p
      have hiw : i.wf := HPW.out.1
      have hm7 : m ≤ 7 := HPW.out.2.1
      have HIW := Lib.hid hiw
      have H4 := Lib.hid h4
      have R4 := Lib.hid r4
      have X4 := Lib.hid x4
      have F4 := Lib.hid f4
      have rc := r4.cell
      clear h4 r4 x4 f4 hiw
      go_wp2_with fail
      refine (isaOf_any i.op i.reg _ HIW.out.op.1 HIW.out.op.2 HIW.out.reg.1 HIW.out.reg.2).mono ?_
      cases hq : isaOf i.op i.reg with
      | none =>
        have HE := Lib.hid (show takeF bs = none by rw [HT.out, restF]; dsimp only; rw [hq])
        rw [rowV_none]
        clear hq
        rintro e w5 ⟨rfl, hb⟩; dsimp only
        have F5 := Lib.hid (F4.out.trans (Fr.of_below hb))
        clear hb rc
        go_wp2_with fail
        refine ⟨rfl, ?_⟩
        rw [HE.out]
        exact ⟨rfl, F5.out.alloc _⟩
      | some r =>
        obtain ⟨rn, ra, rb, rmod⟩ := r
        rw [rowV_some]
        obtain ⟨q, hqq⟩ : ∃ q, behindF bs m i ⟨rn, ra, rb, rmod⟩ = q := ⟨_, rfl⟩
        have hqw : q.1.wf := hqq ▸ behindF_wf HWF.out m i _ HIW.out
        have HE := Lib.hid (show takeF bs = if mayB q.1 then some q else none by rw [HT.out, restF]; dsimp only; rw [hq]; dsimp only; rw [hqq])
        have HQ := Lib.hid hqq
        clear hq hqq
        rintro e w5 ⟨rfl, hb⟩; dsimp only
        have H5 := Lib.hid ((H4.out.below hb).below ((Below.refl w5.heap.size w5).alloc (Nat.le_refl _) (.cells #[.int .i64 rn, .int .i64 ra, .int .i64 rb, .bool rmod] 47)))
        have R5 := Lib.hid ((Below.row hb R4.out R4.out.lt).alloc (.cells #[.int .i64 rn, .int .i64 ra, .int .i64 rb, .bool rmod] 47))
        have X5 := Lib.hid ((Below.row hb X4.out X4.out.lt).alloc (.cells #[.int .i64 rn, .int .i64 ra, .int .i64 rb, .bool rmod] 47))
        have F5 := Lib.hid ((F4.out.trans (Fr.of_below hb)).alloc (.cells #[.int .i64 rn, .int .i64 ra, .int .i64 rb, .bool rmod] 47))
        clear hb rc
        go_wp2_with fail
        refine (scanBehind_any _ g b (w.heap.size + 1) bs m i ⟨rn, ra, rb, rmod⟩ H5.out (by omega) R5.out D1.out D2.out).mono ?_
        rw [HQ.out]
        rintro e w6 ⟨rfl, h6, r6, f6⟩; dsimp only
        have H6 := Lib.hid h6
        have R6 := Lib.hid r6
        have X6 := Lib.hid (f6.row X5.out D3.out)
        have F6 := Lib.hid (F5.out.join f6 (by omega))
        have rc := r6.cell
        clear h6 r6 f6
        obtain ⟨j, k⟩ := q
        dsimp only at hqw
        go_wp2_with fail
        refine (may_any j _ hqw).mono ?_
        obtain ⟨mb, hmb⟩ : ∃ mb, mayB j = mb := ⟨_, rfl⟩
        have HE2 := Lib.hid (show takeF bs = if mb then some (j, k) else none by rw [HE.out, hmb])
        rw [hmb]
        clear hmb
        rintro e w7 ⟨rfl, hb⟩; dsimp only
        have H7 := Lib.hid (H6.out.below hb)
        have R7 := Lib.hid (Below.row hb R6.out R6.out.lt)
        have x7 := Below.row hb X6.out X6.out.lt
        have X7 := Lib.hid x7
        have F7 := Lib.hid (F6.out.trans (Fr.of_below hb))
        clear rc hb
        have rc := R7.out.cell
        have xc := x7.cell
        have xf := x7.frozen
        have xl := x7.lt
        clear x7
        cases mb with
        | false =>
          go_wp2_with fail
          refine ⟨rfl, ?_⟩
          rw [HE2.out]
          exact ⟨rfl, F7.out⟩
        | true =>
          go_wp2_with fail
          have hz := row_inst j X7.out
          refine bodyPost_ret (v := j.val) (results_row (cs := j.cells) rfl _ _ _ _ _ rfl hz Tryz.underlying30 rfl (by kernel_rfl)) rfl ?_
          rw [HE2.out, if_pos trivial]
          refine ⟨rfl, ?_, ?_⟩
          · repeat (first | refine Src.setOther ?_ _ _ D4.out D5.out | exact H7.out)
          · repeat (first | refine Fr.setNew ?_ (Nat.le_refl _) _ | exact F7.out)
end Go.Proofs.YtcglkefaopgjeaaGreatDoor

/- Package scan: what Get defers. -/
namespace Go.Proofs.YtcglkefaopgjeaaGreatDoor
set_option linter.unusedSimpArgs false
set_option linter.unusedVariables false
open Go.RowKit

abbrev three (a b c : Nat) : Nat → Prop := fun k => k = a ∨ k = b ∨ k = c
abbrev zeroI : Inst := ⟨false, 0, 0, 0, 0, 0, 0, 0, 0, 0⟩

set_option maxRecDepth 100000 in
set_option maxHeartbeats 1600000 in
theorem deferred_idle (a b c : Nat) (w : World) :
    CallsD Tryz.prog 98 #[.pointer (some ⟨a, 0, none⟩), .pointer (some ⟨b, 0, none⟩), .pointer (some ⟨c, 0, none⟩)] .returning w fun e u' w' => e = .returned (.tuple #[]) ∧ u' = .returning ∧ w' = w := by
  refine callsD_of_wpS Tryz.func98 rfl fun c₀ cs hu => ?_
  apply wpS_seq
  apply wpS_region
  simp [wpOpsS, go_sem, recoverD, hu, Tryz.ntmps98, Exit.thenS]
  refine wpS_of_wp ?_
  go_wp2_with fail
  cases c₀
  simp_all [bodyPostS, results, Tryz.results98]

@[go_sem] theorem assert_errno (v : Value) (xT : TypeId) (w : World) : (Instr.typeAssert (.iface 81 v) xT 81 true).run Tryz.prog w = .ok (.tuple #[v, .bool true]) w := by kernel_rfl
abbrev zeroed (w : World) (x : Nat) : World := ((((((((((w.setCell ⟨x, 0, none⟩ (.bool false)).setCell ⟨x, 1, none⟩ (.int .i64 0)).setCell ⟨x, 2, none⟩ (.int .i64 0)).setCell ⟨x, 3, none⟩ (.int .u8 0)).setCell ⟨x, 4, none⟩ (.int .i64 0)).setCell ⟨x, 5, none⟩ (.int .i64 0)).setCell ⟨x, 6, none⟩ (.int .i64 0)).setCell ⟨x, 7, none⟩ (.int .u16 0)).setCell ⟨x, 8, none⟩ (.int .u16 0)).setCell ⟨x, 9, none⟩ (.int .u16 0))
theorem zeroed_row {w : World} {x : Nat} {c : Inst} (h : Row w x c.cells 30) : Row (zeroed w x) x zeroI.cells 30 := row_inst zeroI h
theorem zeroed_other {w : World} {x y : Nat} {cs : Array Value} {t : TypeId} (h : Row w y cs t) (d : y ≠ x) : Row (zeroed w x) y cs t := by
  unfold zeroed
  repeat (refine Row.setCell_other ?_ _ _ d)
  exact h
theorem zeroed_fr {own : Nat → Prop} {a w : World} {x : Nat} (h : Fr own a w) (d : own x) : Fr own a (zeroed w x) := by
  unfold zeroed
  repeat (refine Fr.setCell ?_ d _)
  exact h

set_option maxRecDepth 100000 in
set_option maxHeartbeats 1600000 in
theorem deferred_panicking (a b c : Nat) (i : Inst) (n m x : Int) (w : World) (hi : Row w a i.cells 30) (hn : Row w b #[.int .i64 n] 3) (hm : Row w c #[.int .i64 m] 81) (d1 : a ≠ b) (d2 : a ≠ c) (d3 : b ≠ c) :
    CallsD Tryz.prog 98 #[.pointer (some ⟨a, 0, none⟩), .pointer (some ⟨b, 0, none⟩), .pointer (some ⟨c, 0, none⟩)] (.panicking [{ v := errNo x, recovered := false }]) w fun e u' w' =>
      e = .returned (.tuple #[]) ∧ u' = .panicking [{ v := errNo x, recovered := true }] ∧ Row w' a zeroI.cells 30 ∧ Row w' b #[.int .i64 0] 3 ∧ Row w' c #[.int .i64 x] 81 ∧ Fr (three a b c) w w' := by
  refine callsD_of_wpS Tryz.func98 rfl fun c₀ cs hu => ?_
  apply wpS_seq
  apply wpS_region
  simp [wpOpsS, go_sem, recoverD, hu, Tryz.ntmps98, Exit.thenS]
  refine wpS_of_wp ?_
  simp only [Array.replicate_succ, Array.replicate_zero, List.push_toArray, List.append_toArray, List.nil_append, List.cons_append, List.setIfInBounds_toArray, List.set_cons_succ, List.set_cons_zero]
  have ic := hi.cell
  have ifr := hi.frozen
  have il := hi.lt
  have nc := hn.cell
  have nf := hn.frozen
  have mc := hm.cell
  have mf := hm.frozen
  go_upto_if 15 with fail
  have h1 := ((zeroed_row hi).setCell_other ⟨b, 0, none⟩ (.int .i64 0) d1).setCell_other ⟨c, 0, none⟩ (.int .i64 3) d2
  have h2 := ((zeroed_other hn (Ne.symm d1)).setCell 0 (.int .i64 0)).setCell_other ⟨c, 0, none⟩ (.int .i64 3) d3
  have h3 := ((zeroed_other hm (Ne.symm d2)).setCell_other ⟨b, 0, none⟩ (.int .i64 0) (Ne.symm d3)).setCell 0 (.int .i64 3)
  have h4 : Fr (three a b c) w _ := ((zeroed_fr (x := a) (Fr.refl (three a b c) w) (Or.inl rfl)).setCell (p := ⟨b, 0, none⟩) (Or.inr (Or.inl rfl)) (.int .i64 0)).setCell (p := ⟨c, 0, none⟩) (Or.inr (Or.inr rfl)) (.int .i64 3)
  unfold zeroed at h1 h2 h3 h4
  generalize (((((((((((w.setCell ⟨a, 0, none⟩ (.bool false)).setCell ⟨a, 1, none⟩ (.int .i64 0)).setCell ⟨a, 2, none⟩ (.int .i64 0)).setCell ⟨a, 3, none⟩ (.int .u8 0)).setCell ⟨a, 4, none⟩ (.int .i64 0)).setCell ⟨a, 5, none⟩ (.int .i64 0)).setCell ⟨a, 6, none⟩ (.int .i64 0)).setCell ⟨a, 7, none⟩ (.int .u16 0)).setCell ⟨a, 8, none⟩ (.int .u16 0)).setCell ⟨a, 9, none⟩ (.int .u16 0)).setCell ⟨b, 0, none⟩ (.int .i64 0)).setCell ⟨c, 0, none⟩ (.int .i64 3) = w1 at h1 h2 h3 h4 ⊢
  clear ic ifr il nc nf mc mf hi hn hm
  have mc := h3.cell
  have mf := h3.frozen
  go_wp2_with fail
  cases c₀
  refine ⟨rfl, _, rfl, _, results_none rfl _ _ _, rfl, rfl, ?_, ?_, ?_, ?_⟩
  · exact h1.setCell_other _ _ d2
  · exact h2.setCell_other _ _ d3
  · exact Row.setCell h3 0 (.int .i64 x)
  · exact h4.setCell (p := ⟨c, 0, none⟩) (Or.inr (Or.inr rfl)) _
end Go.Proofs.YtcglkefaopgjeaaGreatDoor

/- Package scan: Get. -/
namespace Go.Proofs.YtcglkefaopgjeaaGreatDoor
set_option linter.unusedSimpArgs false
set_option linter.unusedVariables false
open Go.RowKit

def GetVal : Option (Inst × Nat) → Value
  | some (i, n) => .tuple #[i.val, .int .i64 (n : Int), .int .i64 0]
  | none => .tuple #[zeroI.val, .int .i64 0, .int .i64 3]

theorem results_get (tmps : Array Value) (w : World) (a b c : Nat) (i : Inst) (n m : Int) (h2 : tmps.getD 2 undef = .pointer (some ⟨a, 0, none⟩)) (h3 : tmps.getD 3 undef = .pointer (some ⟨b, 0, none⟩)) (h4 : tmps.getD 4 undef = .pointer (some ⟨c, 0, none⟩))
    (hi : Row w a i.cells 30) (hn : Row w b #[.int .i64 n] 3) (hm : Row w c #[.int .i64 m] 81) :
    (results (Tryz.f58) tmps).run Tryz.prog w = .ok (.tuple #[i.val, .int .i64 n, .int .i64 m]) w := by
  have g2 : tmps[2]?.getD undef = .pointer (some ⟨a, 0, none⟩) := by simpa using h2
  have g3 : tmps[3]?.getD undef = .pointer (some ⟨b, 0, none⟩) := by simpa using h3
  have g4 : tmps[4]?.getD undef = .pointer (some ⟨c, 0, none⟩) := by simpa using h4
  have nc : w.cell? ⟨b, 0, none⟩ = some (.int .i64 n) := hn.cell 0
  have mc : w.cell? ⟨c, 0, none⟩ = some (.int .i64 m) := hm.cell 0
  have li := run_loadVar_row (P := Tryz.prog) w a 30 30 i.cells (0, 0) _ hi Tryz.underlying30 rfl (by kernel_rfl)
  have ic := hi.cell
  simp [results, Tryz.results58, g2, g3, g4, asAddr, ic, nc, mc, go_sem]

theorem Fr.under {own : Nat → Prop} {a w : World} (h : Fr own a w) (ho : ∀ k, own k → a.heap.size ≤ k) : Below a.heap.size a w :=
  ⟨h.os, h.tape, h.output, h.size, fun k hk => h.block k hk (fun e => by have := ho k e; omega)⟩

theorem row_inst_other {w : World} {y : Nat} {cs : Array Value} {t : TypeId} (j : Inst) (x : Nat) (h : Row w y cs t) (d : y ≠ x) : Row (((((((((((w.setCell ⟨x, 0, none⟩ (.bool j.lock)).setCell ⟨x, 1, none⟩ (.int .i64 j.rep)).setCell ⟨x, 2, none⟩ (.int .i64 j.seg)).setCell ⟨x, 3, none⟩ (.int .u8 j.op)).setCell ⟨x, 4, none⟩ (.int .i64 j.mod)).setCell ⟨x, 5, none⟩ (.int .i64 j.reg)).setCell ⟨x, 6, none⟩ (.int .i64 j.rm)).setCell ⟨x, 7, none⟩ (.int .u16 j.disp)).setCell ⟨x, 8, none⟩ (.int .u16 j.imm)).setCell ⟨x, 9, none⟩ (.int .u16 j.sel))) y cs t := by
  repeat (refine Row.setCell_other ?_ _ _ d)
  exact h
theorem inst_below {a w : World} {n : Nat} (j : Inst) (x : Nat) (h : Below n a w) (d : n ≤ x) : Below n a (((((((((((w.setCell ⟨x, 0, none⟩ (.bool j.lock)).setCell ⟨x, 1, none⟩ (.int .i64 j.rep)).setCell ⟨x, 2, none⟩ (.int .i64 j.seg)).setCell ⟨x, 3, none⟩ (.int .u8 j.op)).setCell ⟨x, 4, none⟩ (.int .i64 j.mod)).setCell ⟨x, 5, none⟩ (.int .i64 j.reg)).setCell ⟨x, 6, none⟩ (.int .i64 j.rm)).setCell ⟨x, 7, none⟩ (.int .u16 j.disp)).setCell ⟨x, 8, none⟩ (.int .u16 j.imm)).setCell ⟨x, 9, none⟩ (.int .u16 j.sel))) := by
  repeat (refine Below.setCell ?_ d _)
  exact h

set_option maxRecDepth 100000 in
set_option maxHeartbeats 3200000 in
theorem scanGet_any (w : World) (b : Nat) (bs : Nat → Int) (hby : ∀ k, k < 12 → w.cell? ⟨b, k, none⟩ = some (.int .u8 (bs k))) (hlt : b < w.heap.size) (hwf : ∀ k, 0 ≤ bs k ∧ bs k ≤ 255) :
    Calls Tryz.prog 58 #[.slice (some ⟨b, 0, none⟩) 12 12] w fun e w' => e = .returned (GetVal (takeF bs)) ∧ Below w.heap.size w w' := by
  have hmf : ∀ (fn : Fn) (first cap : Array Value) (w : World), (Instr.makeFunc fn first cap).run Tryz.prog w = .ok (.func fn first cap) w := fun _ _ _ _ => rfl
  have hb0 := ((((Below.refl w.heap.size w).alloc (Nat.le_refl _) (.cells zeroI.cells 30)).alloc (by simp) (.cells #[.int .i64 0] 3)).alloc (by simp; omega) (.cells #[.int .i64 0] 81)).alloc (by simp; omega) (.cells #[.slice (some ⟨b, 0, none⟩) 12 12, .int .i64 0] 152)
  have HB0 := Lib.hid hb0
  have HI0 := Lib.hid ((((Row.new w zeroI.cells 30).alloc (.cells #[.int .i64 0] 3)).alloc (.cells #[.int .i64 0] 81)).alloc (.cells #[.slice (some ⟨b, 0, none⟩) 12 12, .int .i64 0] 152))
  have HN0 := Lib.hid (((Row.new' (w := w.alloc (.cells zeroI.cells 30)) (n := w.heap.size + 1) (cs := #[.int .i64 0]) (t := 3) (by simp)).alloc (.cells #[.int .i64 0] 81)).alloc (.cells #[.slice (some ⟨b, 0, none⟩) 12 12, .int .i64 0] 152))
  have HM0 := Lib.hid ((Row.new' (w := (w.alloc (.cells zeroI.cells 30)).alloc (.cells #[.int .i64 0] 3)) (n := w.heap.size + 1 + 1) (cs := #[.int .i64 0]) (t := 81) (by simp)).alloc (.cells #[.slice (some ⟨b, 0, none⟩) 12 12, .int .i64 0] 152))
  have hg0 := Row.new' (w := ((w.alloc (.cells zeroI.cells 30)).alloc (.cells #[.int .i64 0] 3)).alloc (.cells #[.int .i64 0] 81)) (n := w.heap.size + 1 + 1 + 1) (cs := #[.slice (some ⟨b, 0, none⟩) 12 12, .int .i64 0]) (t := 152) (by simp)
  have HS0 := Lib.hid (show Src _ (w.heap.size + 1 + 1 + 1) b bs 0 from ⟨hg0, fun k hk => (World.cell?_of_block (a := ⟨b, k, none⟩) (hb0.block b hlt)).trans (hby k hk), by omega, by simp; omega, hwf⟩)
  clear hb0 hg0
  go_enter_defers Tryz.func58, Tryz.ntmps58
  go_wp2_with fail
  refine (take_any _ (w.heap.size + 1 + 1 + 1) b bs HS0.out).mono ?_
  obtain ⟨r, hr⟩ : ∃ r, takeF bs = r := ⟨_, rfl⟩
  rw [hr]
  cases r with
  | none =>
    rintro e w1 ⟨rfl, f1⟩; dsimp only
    have hi1 := f1.row HI0.out (show ¬ one (w.heap.size + 1 + 1 + 1) w.heap.size by intro e; dsimp only [one] at e; omega)
    have hn1 := f1.row HN0.out (show ¬ one (w.heap.size + 1 + 1 + 1) (w.heap.size + 1) by intro e; dsimp only [one] at e; omega)
    have hm1 := f1.row HM0.out (show ¬ one (w.heap.size + 1 + 1 + 1) (w.heap.size + 1 + 1) by intro e; dsimp only [one] at e; omega)
    go_wp2_with fail
    refine leaves_cons (f := 98) (args := #[.pointer (some ⟨w.heap.size, 0, none⟩), .pointer (some ⟨w.heap.size + 1, 0, none⟩), .pointer (some ⟨w.heap.size + 1 + 1, 0, none⟩)]) (by simp) (by simp [go_sem]) ?_
    refine (deferred_panicking _ _ _ zeroI 0 0 3 _ hi1 hn1 hm1 (by omega) (by omega) (by omega)).mono ?_
    rintro e u' w2 ⟨rfl, rfl, k1, k2, k3, k4⟩
    refine ⟨_, results_get _ _ _ _ _ zeroI 0 3 rfl rfl rfl k1 k2 k3, by rw [hr]; rfl, ?_⟩
    have hf := Fr.under (Fr.of_below (own := one (w.heap.size + 1 + 1 + 1)) (HB0.out) |>.trans f1) (by rintro k rfl; omega)
    exact Fr.under ((Fr.of_below hf).trans k4) (by rintro k (rfl | rfl | rfl) <;> omega)
  | some p =>
    obtain ⟨i, n⟩ := p
    rintro e w1 ⟨rfl, s1, f1⟩; dsimp only
    have hi1 := f1.row HI0.out (show ¬ one (w.heap.size + 1 + 1 + 1) w.heap.size by intro e; dsimp only [one] at e; omega)
    have hn1 := f1.row HN0.out (show ¬ one (w.heap.size + 1 + 1 + 1) (w.heap.size + 1) by intro e; dsimp only [one] at e; omega)
    have hm1 := f1.row HM0.out (show ¬ one (w.heap.size + 1 + 1 + 1) (w.heap.size + 1 + 1) by intro e; dsimp only [one] at e; omega)
    have HR1 := Lib.hid s1.row
    have HI1 := Lib.hid hi1
    have HN1 := Lib.hid hn1
    have HM1 := Lib.hid hm1
    have HB1 := Lib.hid (Fr.under ((Fr.of_below (own := one (w.heap.size + 1 + 1 + 1)) (HB0.out)).trans f1) (by rintro k rfl; omega))
    have il := hi1.lt
    have ifr := hi1.frozen
    have ic := hi1.cell
    clear s1 f1 hi1 hn1 hm1
    go_wp2_with fail
    have hi2 := row_inst i HI1.out
    have hr2 := row_inst_other i w.heap.size HR1.out (by omega)
    have hn2 := row_inst_other i w.heap.size HN1.out (by omega)
    have hm2 := row_inst_other i w.heap.size HM1.out (by omega)
    have hb2 := inst_below i w.heap.size HB1.out (Nat.le_refl _)
    clear il ifr ic
    generalize ((((((((((w1.setCell ⟨w.heap.size, 0, none⟩ (.bool i.lock)).setCell ⟨w.heap.size, 1, none⟩ (.int .i64 i.rep)).setCell ⟨w.heap.size, 2, none⟩ (.int .i64 i.seg)).setCell ⟨w.heap.size, 3, none⟩ (.int .u8 i.op)).setCell ⟨w.heap.size, 4, none⟩ (.int .i64 i.mod)).setCell ⟨w.heap.size, 5, none⟩ (.int .i64 i.reg)).setCell ⟨w.heap.size, 6, none⟩ (.int .i64 i.rm)).setCell ⟨w.heap.size, 7, none⟩ (.int .u16 i.disp)).setCell ⟨w.heap.size, 8, none⟩ (.int .u16 i.imm)).setCell ⟨w.heap.size, 9, none⟩ (.int .u16 i.sel)) = w2 at hi2 hr2 hn2 hm2 hb2 ⊢
    have HR2 := Lib.hid hr2
    have HI2 := Lib.hid hi2
    have HN2 := Lib.hid hn2
    have HM2 := Lib.hid hm2
    have HB2 := Lib.hid hb2
    have il := hi2.lt
    have ifr := hi2.frozen
    have ic := hi2.cell
    have rc := hr2.cell
    have nc := hn2.cell
    have nf := hn2.frozen
    have mc := hm2.cell
    have mf := hm2.frozen
    clear hi2 hr2 hn2 hm2 hb2
    go_region
    clear il ifr ic rc nc nf mc mf
    have hi3 := row_inst i HI2.out
    have hn3 := row_inst_other i w.heap.size HN2.out (by omega)
    have hm3 := row_inst_other i w.heap.size HM2.out (by omega)
    have hb3 := inst_below i w.heap.size HB2.out (Nat.le_refl _)
    generalize ((((((((((w2.setCell ⟨w.heap.size, 0, none⟩ (.bool i.lock)).setCell ⟨w.heap.size, 1, none⟩ (.int .i64 i.rep)).setCell ⟨w.heap.size, 2, none⟩ (.int .i64 i.seg)).setCell ⟨w.heap.size, 3, none⟩ (.int .u8 i.op)).setCell ⟨w.heap.size, 4, none⟩ (.int .i64 i.mod)).setCell ⟨w.heap.size, 5, none⟩ (.int .i64 i.reg)).setCell ⟨w.heap.size, 6, none⟩ (.int .i64 i.rm)).setCell ⟨w.heap.size, 7, none⟩ (.int .u16 i.disp)).setCell ⟨w.heap.size, 8, none⟩ (.int .u16 i.imm)).setCell ⟨w.heap.size, 9, none⟩ (.int .u16 i.sel)) = w3 at hi3 hn3 hm3 hb3 ⊢
    have HI4 := Lib.hid (((hi3.setCell_other ⟨w.heap.size + 1, 0, none⟩ (.int .i64 n) (by simp)).setCell_other ⟨w.heap.size + 1 + 1, 0, none⟩ (.int .i64 0) (by simp; omega)).drew)
    have HN4 := Lib.hid (show Row _ _ #[.int .i64 n] 3 from ((hn3.setCell 0 (.int .i64 n)).setCell_other ⟨w.heap.size + 1 + 1, 0, none⟩ (.int .i64 0) (by simp)).drew)
    have HM4 := Lib.hid (show Row _ _ #[.int .i64 0] 81 from ((hm3.setCell_other ⟨w.heap.size + 1, 0, none⟩ (.int .i64 n) (by simp)).setCell 0 (.int .i64 0)).drew)
    have HB4 := Lib.hid (((hb3.setCell (p := ⟨w.heap.size + 1, 0, none⟩) (by simp) (.int .i64 n)).setCell (p := ⟨w.heap.size + 1 + 1, 0, none⟩) (by simp; omega) (.int .i64 0)).drew)
    clear hi3 hn3 hm3 hb3
    go_wp2_with fail
    refine leaves_cons (f := 98) (args := #[.pointer (some ⟨w.heap.size, 0, none⟩), .pointer (some ⟨w.heap.size + 1, 0, none⟩), .pointer (some ⟨w.heap.size + 1 + 1, 0, none⟩)]) (by simp) (by simp [go_sem]) ?_
    refine (deferred_idle _ _ _ _).mono ?_
    rintro e u' w4 ⟨rfl, rfl, rfl⟩
    refine ⟨_, results_get _ _ _ _ _ i n 0 rfl rfl rfl HI4.out HN4.out HM4.out, by rw [hr]; rfl, HB4.out⟩
end Go.Proofs.YtcglkefaopgjeaaGreatDoor

/- Package cpu: here. -/
namespace Go.Proofs.YtcglkefaopgjeaaGreatDoor
set_option linter.unusedSimpArgs false
set_option linter.unusedVariables false
open Go.RowKit

set_option maxRecDepth 100000 in
set_option maxHeartbeats 1600000 in
theorem here_any (w : World) (C : Phys) (lv : Value) (m : Mach) (h : Own w C lv m) (n : Int) (h0 : 0 ≤ n) (h1 : n ≤ 65535) :
    Calls Tryz.prog 56 #[.pointer (some ⟨C.b, 0, none⟩), .int .i64 n] w fun e w' => e = .returned (P3 m.r.s1 (IntKind.u16.wrap (m.r.ip + n))) ∧ Below w.heap.size w w' := by
  have HO0 := Lib.hid (h.alloc (.cells #[.int .u16 0, .bool false, .int .u16 0] 52))
  have HX0 := Lib.hid (Box.new h #[.int .u16 0, .bool false, .int .u16 0] 52)
  have HB0 := Lib.hid ((Below.refl w.heap.size w).alloc (Nat.le_refl _) (.cells #[.int .u16 0, .bool false, .int .u16 0] 52))
  have hh := Lib.hid h; have sc := hh.out.sees.c; have sf := hh.out.sees.f; have sr := hh.out.sees.r; have ss := hh.out.sees.s; have sl := hh.out.sees.l; clear h hh
  go_enter Tryz.func56, Tryz.ntmps56
  go_upto_region 1 with fail
  clear sc sf sr ss sl
  generalize w.alloc (.cells #[.int .u16 0, .bool false, .int .u16 0] 52) = W0 at *
  have sc := HO0.out.sees.c; have sf := HO0.out.sees.f; have sr := HO0.out.sees.r; have ss := HO0.out.sees.s; have sl := HO0.out.sees.l
  have c24 : W0.cell? ⟨C.b, 24, none⟩ = some (.int .u16 m.r.ip) := (HO0.out.row.cell 24).trans (mcell24 C m)
  clear sc sf
  refine range_of (W0) ?_; intro S inst ω hin hout
  have r1 := range_regs hin sr
  have r2 := range_cell hin c24
  have k1 := range_call hin hout (seg_any m.r 1)
  clear sr ss sl c24
  refine wp_region_tail_range ω 14 (by kernel_rfl) (by kernel_rfl) (hout _ (Below.refl _ _).drew) ?_; simp only [List.take_succ_cons, List.take_zero, List.drop_succ_cons, List.drop_zero]
  repeat (go_big_quiet_step ((with_reducible exact k1 _)))
  refine wpQuiet_nil ?_; intro _ hw'; obtain ⟨nq, rfl⟩ := hw'
  have HB1 := Lib.hid (HB0.out.trans ((hin nq).mono HB0.out.size))
  have HX1 := Lib.hid (HX0.out.below (hin nq))
  clear r1 r2 k1
  generalize ω nq = w1 at HB1 HX1 ⊢
  have yc := HX1.out.row.cell
  have yf := HX1.out.row.frozen
  have yl := HX1.out.row.lt
  go_wp2_with fail
  have hz := ((HX1.out.row.setCell 0 (.int .u16 m.r.s1.v)).setCell 1 (.bool m.r.s1.t)).setCell 2 (.int .u16 (IntKind.u16.wrap (m.r.ip + n)))
  refine bodyPost_ret (v := P3 m.r.s1 (IntKind.u16.wrap (m.r.ip + n))) (results_row (cs := #[.int .u16 m.r.s1.v, .bool m.r.s1.t, .int .u16 (IntKind.u16.wrap (m.r.ip + n))]) rfl _ _ _ _ _ rfl hz Tryz.underlying52 rfl (by kernel_rfl)) rfl ⟨rfl, ?_⟩
  exact ((HB1.out.setCell (Nat.le_refl _) _).setCell (Nat.le_refl _) _).setCell (Nat.le_refl _) _
end Go.Proofs.YtcglkefaopgjeaaGreatDoor

/- Package cpu: plain. -/
namespace Go.Proofs.YtcglkefaopgjeaaGreatDoor
set_option linter.unusedSimpArgs false
set_option linter.unusedVariables false
open Go.RowKit

def Mach.oneB (m : Mach) (but : Int) (k : Nat) : Bool :=
  m.owns m.r.s1 (IntKind.u16.wrap (m.r.ip + k)) 1 && (m.tag (lin m.r.s1.v (IntKind.u16.wrap (m.r.ip + k))) == 0 || (decide (0 ≤ but) && (decide ((k : Int) = but) || decide ((k : Int) = but + 1))))
def Mach.plainB (m : Mach) (but : Int) : Nat → Bool
  | 0 => true
  | n + 1 => m.plainB but n && m.oneB but n
theorem plainB_false (m : Mach) (but : Int) (n k : Nat) (hk : k < n) (h : m.oneB but k = false) : m.plainB but n = false := by
  induction n with
  | zero => omega
  | succ n ih =>
    rw [Mach.plainB]
    by_cases e : k = n
    · subst e; rw [h, Bool.and_false]
    · rw [ih (by omega), Bool.false_and]

set_option maxRecDepth 100000 in
set_option maxHeartbeats 3200000 in
theorem plainN_any (w : World) (C : Phys) (lv : Value) (m : Mach) (h : Own w C lv m) (n : Nat) (but : Int) (hn : n ≤ 65535) (hb0 : -1 ≤ but) (hb1 : but ≤ 65535) :
    Calls Tryz.prog 59 #[.pointer (some ⟨C.b, 0, none⟩), .int .i64 n, .int .i64 but] w fun e w' => e = .returned (.bool (m.plainB but n)) ∧ Below w.heap.size w w' := by
  have H := Lib.hid h
  have s1w := h.wf.r.s1
  have p0 := s1w.1
  have p1 := s1w.2
  clear h
  go_enter Tryz.func59, Tryz.ntmps59
  go_wp2_with fail
  go_loopw [12] (fun i wr => ∃ k : Nat, k ≤ n ∧ i = .int .i64 k ∧ m.plainB but k = true ∧ Below w.heap.size w wr) (fun i _ => n - (intOf i).toNat)
  case atStart => exact ⟨0, Nat.zero_le _, rfl, rfl, Below.refl _ _⟩
  case round =>
    obtain ⟨k, hk, rfl, hown, hbl⟩ := hrel
    have HO := Lib.hid (H.out.below hbl)
    have HB := Lib.hid hbl
    have HP := Lib.hid hown
    clear hbl hown
    by_cases hlt : k < n
    · have hi : ((k : Nat) : Int) < ((n : Nat) : Int) := by omega
      go_wp2_with fail
      refine (here_any _ _ _ _ HO.out k (by omega) (by omega)).mono ?_
      obtain ⟨o, ho⟩ : ∃ o, IntKind.u16.wrap (m.r.ip + k) = o := ⟨_, rfl⟩
      have o0 : 0 ≤ o := ho ▸ wrap16_lo _
      have o1 : o ≤ 65535 := ho ▸ wrap16_hi _
      have HOFF := Lib.hid ho
      rw [ho]
      clear ho
      rintro e w1 ⟨rfl, hb⟩; dsimp only
      have HO1 := Lib.hid ((HO.out.below hb).alloc (.cells #[.int .u16 m.r.s1.v, .bool m.r.s1.t, .int .u16 o] 52))
      have HB1 := Lib.hid ((HB.out.trans (hb.mono HB.out.size)).alloc (HB.out.trans (hb.mono HB.out.size)).size (.cells #[.int .u16 m.r.s1.v, .bool m.r.s1.t, .int .u16 o] 52))
      have HX1 := Lib.hid (Row.new w1 #[.int .u16 m.r.s1.v, .bool m.r.s1.t, .int .u16 o] 52)
      clear hb
      obtain ⟨ow, how⟩ : ∃ ow, m.owns m.r.s1 o 1 = ow := ⟨_, rfl⟩
      obtain ⟨cl, hcl⟩ : ∃ cl, (m.tag (lin m.r.s1.v o) == 0) = cl := ⟨_, rfl⟩
      have HE := Lib.hid (show m.oneB but k = (ow && (cl || (decide (0 ≤ but) && (decide ((k : Int) = but) || decide ((k : Int) = but + 1))))) by rw [Mach.oneB, HOFF.out, how, hcl])
      have HOW := Lib.hid how
      have HCL := Lib.hid hcl
      clear how hcl
      go_upto_region 5 with fail
      generalize w1.alloc (.cells #[.int .u16 m.r.s1.v, .bool m.r.s1.t, .int .u16 o] 52) = W1 at HO1 HB1 HX1 ⊢
      have kb : ∀ q, Calls Tryz.prog 57 #[.pointer (some ⟨C.mb, 0, none⟩), .int .u16 m.r.s1.v, .int .u16 o] (W1.drewN q) fun e w' => e = .returned (.tuple #[.int .u8 (m.mem (lin m.r.s1.v o)), .bool cl]) ∧ W1.drewN q = w' :=
        fun q => HCL.out ▸ memByte_any _ _ _ _ _ _ (HO1.out.mem.drewN) m.r.s1.v o p0 p1 o0 o1
      have KB := Lib.hid kb
      clear kb
      have xc := HX1.out.cell
      have sc := HO1.out.sees.c; have sf := HO1.out.sees.f; have sr := HO1.out.sees.r; have ss := HO1.out.sees.s; have sl := HO1.out.sees.l
      go_quiet ((go_at_call 57; exact quietS2 (KB.out _)))
      have HO2 := Lib.hid (HO1.out.drewN (n := nq))
      have HB2 := Lib.hid (HB1.out.trans (Below.drewN (Below.refl _ _) : Below w.heap.size W1 (W1.drewN nq)))
      have HX2 := Lib.hid (HX1.out.drewN (n := nq))
      clear sc sf sr ss sl
      clear xc
      generalize W1.drewN nq = W2 at HO2 HB2 HX2 ⊢
      have xc := HX2.out.cell
      cases ow with
      | false =>
        go_wp2_with (go_at_call 100; refine (Own_any _ _ _ _ HO2.out _ _ s1w 1 (by omega)).mono ?_; rw [HOW.out]; rintro e w3 ⟨rfl, hb⟩; have HB3 := Lib.hid (HB2.out.trans (hb.mono HB2.out.size)); clear hb)
        go_ret
        exact ⟨by rw [plainB_false m but n k hlt (by rw [HE.out]; rfl)]; rfl, HB3.out⟩
      | true =>
        cases cl with
        | true =>
          go_wp2_with (go_at_call 100; refine (Own_any _ _ _ _ HO2.out _ _ s1w 1 (by omega)).mono ?_; rw [HOW.out]; rintro e w3 ⟨rfl, hb⟩; have HB3 := Lib.hid (HB2.out.trans (hb.mono HB2.out.size)); clear hb)
          exact ⟨⟨k + 1, by omega, by go_num, by rw [Mach.plainB, HP.out, HE.out]; rfl, HB3.out⟩, by simp [intOf]; omega⟩
        | false =>
          by_cases hbut : but < 0
          · go_wp2_with (go_at_call 100; refine (Own_any _ _ _ _ HO2.out _ _ s1w 1 (by omega)).mono ?_; rw [HOW.out]; rintro e w3 ⟨rfl, hb⟩; have HB3 := Lib.hid (HB2.out.trans (hb.mono HB2.out.size)); clear hb)
            go_ret
            exact ⟨by rw [plainB_false m but n k hlt (by rw [HE.out, show decide (0 ≤ but) = false by simp; omega]; rfl)]; rfl, HB3.out⟩
          · have t0 : 0 ≤ but := by omega
            have w64 : IntKind.i64.wrap (but + 1) = but + 1 := by rw [IntKind.wrap_i64]; omega
            by_cases e1 : (k : Int) = but
            · have q1 : ((k : Int) == but) = true := by simp [e1]
              have HQ := Lib.hid e1
              clear e1
              go_wp2_with (go_at_call 100; refine (Own_any _ _ _ _ HO2.out _ _ s1w 1 (by omega)).mono ?_; rw [HOW.out]; rintro e w3 ⟨rfl, hb⟩; have HB3 := Lib.hid (HB2.out.trans (hb.mono HB2.out.size)); clear hb)
              exact ⟨⟨k + 1, by omega, by go_num, by rw [Mach.plainB, HP.out, HE.out, show decide (0 ≤ but) = true by simp; omega, show decide ((k : Int) = but) = true by simp [HQ.out]]; rfl, HB3.out⟩, by simp [intOf]; omega⟩
            · have q1 : ((k : Int) != but) = true := by simp [e1]
              have HQ := Lib.hid e1
              clear e1
              by_cases e2 : (k : Int) = but + 1
              · have q2 : ((k : Int) != but + 1) = false := by simp [e2]
                have HR := Lib.hid e2
                clear e2
                go_wp2_with (go_at_call 100; refine (Own_any _ _ _ _ HO2.out _ _ s1w 1 (by omega)).mono ?_; rw [HOW.out]; rintro e w3 ⟨rfl, hb⟩; have HB3 := Lib.hid (HB2.out.trans (hb.mono HB2.out.size)); clear hb)
                exact ⟨⟨k + 1, by omega, by go_num, by rw [Mach.plainB, HP.out, HE.out, show decide (0 ≤ but) = true by simp; omega, show decide ((k : Int) = but + 1) = true by simp [HR.out]]; simp, HB3.out⟩, by simp [intOf]; omega⟩
              · have q2 : ((k : Int) != but + 1) = true := by simp [e2]
                have HR := Lib.hid e2
                clear e2
                go_wp2_with (go_at_call 100; refine (Own_any _ _ _ _ HO2.out _ _ s1w 1 (by omega)).mono ?_; rw [HOW.out]; rintro e w3 ⟨rfl, hb⟩; have HB3 := Lib.hid (HB2.out.trans (hb.mono HB2.out.size)); clear hb)
                go_ret
                exact ⟨by rw [plainB_false m but n k hlt (by rw [HE.out, show decide ((k : Int) = but) = false by simp [HQ.out], show decide ((k : Int) = but + 1) = false by simp [HR.out]]; simp)]; rfl, HB3.out⟩
    · go_wp2_with fail
      go_ret
      obtain rfl : k = n := by omega
      exact ⟨by rw [HP.out]; rfl, HB.out⟩
end Go.Proofs.YtcglkefaopgjeaaGreatDoor

/- Package cpu: Fetch. -/
namespace Go.Proofs.YtcglkefaopgjeaaGreatDoor
set_option linter.unusedSimpArgs false
set_option linter.unusedVariables false
open Go.RowKit

/-- The bytes behind IP. -/
def Mach.code (m : Mach) (k : Nat) : Int := m.mem (lin m.r.s1.v (IntKind.u16.wrap (m.r.ip + k)))

theorem behindF_op (bs : Nat → Int) (n : Nat) (i : Inst) (r : IRow) : (behindF bs n i r).1.op = i.op ∧ (behindF bs n i r).1.reg = i.reg ∧ n ≤ (behindF bs n i r).2 ∧ (behindF bs n i r).2 ≤ n + 4 ∧ (immsOf r = 2 ∨ immsOf r = 4 → n + 2 ≤ (behindF bs n i r).2) := by
  unfold behindF
  split
  · exact ⟨rfl, rfl, by dsimp only; omega, by dsimp only; omega, by omega⟩
  · split
    · exact ⟨rfl, rfl, by dsimp only; omega, by dsimp only; omega, fun _ => by dsimp only; omega⟩
    · split
      · exact ⟨rfl, rfl, by dsimp only; omega, by dsimp only; omega, fun _ => by dsimp only; omega⟩
      · exact ⟨rfl, rfl, by dsimp only; omega, by dsimp only; omega, by omega⟩
theorem takeF_row {bs : Nat → Int} (hb : ∀ k, 0 ≤ bs k ∧ bs k ≤ 255) {i : Inst} {n : Nat} (h : takeF bs = some (i, n)) :
    ∃ r, instRow i.op i.reg = some r ∧ i.wf ∧ n ≤ 11 ∧ (immsOf r = 2 ∨ immsOf r = 4 → 2 ≤ n) := by
  unfold takeF at h
  cases ha : aheadF bs 4 0 false 0 0 with
  | none => rw [ha] at h; cases h
  | some x =>
    obtain ⟨op, k, lock, rep, seg⟩ := x
    rw [ha] at h
    dsimp only at h
    have hw := aheadF_wf hb 4 0 false 0 0 op k lock rep seg ha
    have i0wf : (opI op lock rep seg).wf := ⟨⟨hw.2.1, hw.2.2⟩, ⟨by show (0 : Int) ≤ 0; omega, by show (0 : Int) ≤ 3; omega⟩, ⟨by show (0 : Int) ≤ 0; omega, by show (0 : Int) ≤ 7; omega⟩, ⟨by show (0 : Int) ≤ 0; omega, by show (0 : Int) ≤ 7; omega⟩, ⟨by show (0 : Int) ≤ 0; omega, by show (0 : Int) ≤ 65535; omega⟩, ⟨by show (0 : Int) ≤ 0; omega, by show (0 : Int) ≤ 65535; omega⟩, ⟨by show (0 : Int) ≤ 0; omega, by show (0 : Int) ≤ 65535; omega⟩⟩
    obtain ⟨p, hp⟩ : ∃ p, twoF bs op k lock rep seg = p := ⟨_, rfl⟩
    have hpw : p.1.wf ∧ p.2 ≤ 7 := by
      rw [← hp, twoF]
      split
      · have := secondF_wf hb k _ i0wf
        exact ⟨this.1, by omega⟩
      · exact ⟨i0wf, by dsimp only; omega⟩
    rw [hp] at h
    unfold restF at h
    cases hi : isaOf p.1.op p.1.reg with
    | none => rw [hi] at h; cases h
    | some r =>
      rw [hi] at h
      dsimp only at h
      cases hm : mayB (behindF bs p.2 p.1 r).1 with
      | false => rw [hm] at h; cases h
      | true =>
        rw [hm, if_pos rfl] at h
        have e : behindF bs p.2 p.1 r = (i, n) := Option.some.inj h
        have b := behindF_op bs p.2 p.1 r
        have bw := behindF_wf hb p.2 p.1 r hpw.1
        rw [e] at b bw hm
        dsimp only at b bw hm
        refine ⟨r, ?_, bw, by omega, fun x => by have := b.2.2.2.2 x; omega⟩
        rw [mayB] at hm
        cases hx : instRow i.op i.reg with
        | none => rw [hx] at hm; cases hm
        | some r' =>
          unfold instRow at hx
          split at hx
          · cases hx
          · rw [b.1, b.2.1, hi] at hx
            exact hx.symm
theorem plainB_tag {m : Mach} {but : Int} (hb : but = -1) {n : Nat} (h : m.plainB but n = true) {k : Nat} (hk : k < n) : m.tag (lin m.r.s1.v (IntKind.u16.wrap (m.r.ip + k))) = 0 := by
  induction n with
  | zero => omega
  | succ n ih =>
    rw [Mach.plainB, Bool.and_eq_true] at h
    by_cases e : k = n
    · subst e
      have := h.2
      rw [Mach.oneB, hb, Bool.and_eq_true] at this
      simpa using this.2
    · exact ih h.1 (by omega)

theorem regsIn_setCell_other (w : World) (p : Addr) (v : Value) (g : Nat) (h : g ≠ p.block) : regsIn (w.setCell p v) g = regsIn w g := by
  unfold regsIn
  rw [Below.heap_setCell _ _ _ _ h]
theorem seg1_any (r : Regs) (w : World) : Calls Tryz.prog 64 #[r.val, .int .i64 1] w fun e w' => e = .returned (.agg #[.int .u16 r.s1.v, .bool r.s1.t]) ∧ Below w.heap.size w w' := seg_any r 1 w
abbrev zeroB : Array Value := #[.int .u8 0, .int .u8 0, .int .u8 0, .int .u8 0, .int .u8 0, .int .u8 0, .int .u8 0, .int .u8 0, .int .u8 0, .int .u8 0, .int .u8 0, .int .u8 0]
abbrev vcells (x : V) : Array Value := #[.int .u16 x.v, .bool x.t]
end Go.Proofs.YtcglkefaopgjeaaGreatDoor
