/- Parts of the proof, in one text: YtcglkefaopgjeaaGreatDoorP0 YtcglkefaopgjeaaGreatDoorP3 YtcglkefaopgjeaaGreatDoorQ0 YtcglkefaopgjeaaGreatDoorQ1 YtcglkefaopgjeaaGreatDoorPK YtcglkefaopgjeaaGreatDoorQ2 YtcglkefaopgjeaaGreatDoorS0 YtcglkefaopgjeaaGreatDoorQ3 YtcglkefaopgjeaaGreatDoorS1 YtcglkefaopgjeaaGreatDoorS2 YtcglkefaopgjeaaGreatDoorS3 YtcglkefaopgjeaaGreatDoorS4 YtcglkefaopgjeaaGreatDoorQ4 YtcglkefaopgjeaaGreatDoorQ5. Each part's own remark says what it proves; conditions: those of each theorem. -/
import Derived.Test.YtcglkefaopgjeaaGreatDoorRows
import Derived.WalkKit
import Derived.ProofKit
import Derived.OpenShut
import Derived.LaidMore
import Derived.Stop.Joined
import Derived.Test.YtcglkefaopgjeaaGreatDoorB0
import Derived.Test.YtcglkefaopgjeaaGreatDoorC3
import Derived.WideKeyArgs
import Derived.ChangeArms
import Derived.Test.YtcglkefaopgjeaaGreatDoorV2
import Derived.Test.YtcglkefaopgjeaaGreatDoorH4
import Derived.WalkSpells
import Derived.Test.YtcglkefaopgjeaaGreatDoorH5

/- FRAME OF THE STATEMENTS OF THIS SEAT: what the listed variable's condition asks is met by the door's own heap. -/
namespace Go.Proofs.YtcglkefaopgjeaaGreatDoor
set_option linter.unusedSimpArgs false
set_option linter.unusedVariables false
open Go.ChangeShapes Go.WideShapes Go.ChangeAt Go.RowKit

theorem own : ownKnob Tryz.prog.godebug = none := by kernel_rfl

/-- The door's own heap meets the condition: closed facts. -/
theorem door_met (os : Os) (args : Array Value) : laidMetH Tryz.prog [("hansom/addr.bases", Rows.laid_hansom_addr_bases)] ((World.doorLaid Tryz.prog 4000 os).forCall (fun _ _ => 0) ⟨#[], args, []⟩).memory :=
  laidMetH_of_parts3 (fuel := 40) (laidMet_of_run' 40 (by kernel_rfl) (by kernel_rfl)) (by kernel_rfl) (by kernel_rfl)
end Go.Proofs.YtcglkefaopgjeaaGreatDoor

/- Registers, instructions and words that came in by value: opened to what the walks take, and read again behind. -/
namespace Go.Proofs.YtcglkefaopgjeaaGreatDoor
set_option linter.unusedSimpArgs false
set_option linter.unusedVariables false
open Go.ChangeShapes Go.WideShapes Go.RowKit

section
variable {H : Type} {enc : TypeId × Value → H} {w : World} {base : Nat} {spare : Nat → Bool} {held : Bool}
theorem trod_V {n : Nat} {a b : Value} {x : DataW H × List MemPlace} (h : DataW.trod enc Tryz.prog w base spare held n 24 [a, b] = some x) : ∃ X : V, a = .int .u16 X.v ∧ b = .bool X.t ∧ X.wf ∧ x.2 = [] := by
  obtain ⟨xs, m, _, hx, _, hlen, hf⟩ := DataW.trod_struct Tryz.underlying24 h
  match xs, hlen with
  | [y0, y1], _ =>
    have h0 := hf 0 _ rfl
    have h1 := hf 1 _ rfl
    simp only [List.getElem_toArray, List.getElem_cons_zero, List.getElem_cons_succ] at h0 h1
    have k0 : Tryz.prog.cellsOf 22 = 1 := by kernel_rfl
    have k1 : Tryz.prog.cellsOf 4 = 1 := by kernel_rfl
    simp only [k0, k1, List.drop_zero, List.take_succ_cons, List.take_zero, List.drop_succ_cons, List.getElem?_cons_zero, List.getElem?_cons_succ] at h0 h1
    obtain ⟨v, e0, d0, w0⟩ := DataW.trod_int Tryz.underlying22 h0
    obtain ⟨t, e1, d1⟩ := DataW.trod_bool Tryz.underlying4 h1
    simp only [List.cons.injEq, and_true] at e0 e1
    have bd := bounds_u16 w0
    exact ⟨⟨v, t⟩, e0, e1, bd, by rw [hx, d0, d1]; rfl⟩

set_option maxRecDepth 100000 in
theorem open_regs_list (c0 c1 c2 c3 c4 c5 c6 c7 c8 c9 c10 c11 c12 c13 c14 c15 c16 c17 c18 c19 c20 c21 c22 c23 c24 c25 : Value) {fuel : Nat} {d : DataW H} {p : List MemPlace} (hf : DataW.trod enc Tryz.prog w base spare held fuel 28 [c0, c1, c2, c3, c4, c5, c6, c7, c8, c9, c10, c11, c12, c13, c14, c15, c16, c17, c18, c19, c20, c21, c22, c23, c24, c25] = some (d, p)) : ∃ R : Regs, Value.agg #[c0, c1, c2, c3, c4, c5, c6, c7, c8, c9, c10, c11, c12, c13, c14, c15, c16, c17, c18, c19, c20, c21, c22, c23, c24, c25] = R.val ∧ R.wf ∧ p = [] := by
  obtain ⟨xs, m, _, hx, _, hlen, hg⟩ := DataW.trod_struct Tryz.underlying28 hf
  have k8 : Tryz.prog.cellsOf 25 = 16 := by kernel_rfl
  have k4 : Tryz.prog.cellsOf 26 = 8 := by kernel_rfl
  have k2 : Tryz.prog.cellsOf 24 = 2 := by kernel_rfl
  have k0 : Tryz.prog.cellsOf 22 = 1 := by kernel_rfl
  match xs, hlen with
  | [y0, y1, y2, y3], _ =>
    have h0 := hg 0 _ rfl
    have h1 := hg 1 _ rfl
    have h2 := hg 2 _ rfl
    have h3 := hg 3 _ rfl
    simp only [List.getElem_toArray, List.getElem_cons_zero, List.getElem_cons_succ] at h0 h1 h2 h3
    simp only [Value.cells, k0, k8, k4, List.drop_zero, List.take_succ_cons, List.take_zero, List.drop_succ_cons, List.getElem?_cons_zero, List.getElem?_cons_succ] at h0 h1 h2 h3
    obtain ⟨x2, e2, d2, w2⟩ := DataW.trod_int Tryz.underlying22 h2
    obtain ⟨x3, e3, d3, w3⟩ := DataW.trod_int Tryz.underlying22 h3
    obtain ⟨ys, m0, _, hy, _, hyl, hya⟩ := DataW.trod_array Tryz.underlying25 h0
    obtain ⟨zs, m1, _, hz, _, hzl, hza⟩ := DataW.trod_array Tryz.underlying26 h1
    match ys, hyl, zs, hzl with
    | [a0, a1, a2, a3, a4, a5, a6, a7], _, [b0, b1, b2, b3], _ =>
      simp only [k2] at hya hza
      have g0 := hya 0 (by decide)
      have g1 := hya 1 (by decide)
      have g2 := hya 2 (by decide)
      have g3 := hya 3 (by decide)
      have g4 := hya 4 (by decide)
      have g5 := hya 5 (by decide)
      have g6 := hya 6 (by decide)
      have g7 := hya 7 (by decide)
      have s0 := hza 0 (by decide)
      have s1 := hza 1 (by decide)
      have s2 := hza 2 (by decide)
      have s3 := hza 3 (by decide)
      simp only [Nat.zero_mul, Nat.one_mul, Nat.reduceMul, List.drop_zero, List.take_succ_cons, List.take_zero, List.drop_succ_cons, List.getElem?_cons_zero, List.getElem?_cons_succ] at g0 g1 g2 g3 g4 g5 g6 g7 s0 s1 s2 s3
      obtain ⟨G0, rfl, rfl, wg0, pg0⟩ := trod_V g0
      obtain ⟨G1, rfl, rfl, wg1, pg1⟩ := trod_V g1
      obtain ⟨G2, rfl, rfl, wg2, pg2⟩ := trod_V g2
      obtain ⟨G3, rfl, rfl, wg3, pg3⟩ := trod_V g3
      obtain ⟨G4, rfl, rfl, wg4, pg4⟩ := trod_V g4
      obtain ⟨G5, rfl, rfl, wg5, pg5⟩ := trod_V g5
      obtain ⟨G6, rfl, rfl, wg6, pg6⟩ := trod_V g6
      obtain ⟨G7, rfl, rfl, wg7, pg7⟩ := trod_V g7
      obtain ⟨S0, rfl, rfl, ws0, ps0⟩ := trod_V s0
      obtain ⟨S1, rfl, rfl, ws1, ps1⟩ := trod_V s1
      obtain ⟨S2, rfl, rfl, ws2, ps2⟩ := trod_V s2
      obtain ⟨S3, rfl, rfl, ws3, ps3⟩ := trod_V s3
      simp only [List.cons.injEq, and_true] at e2 e3
      subst e2 e3
      refine ⟨⟨G0, G1, G2, G3, G4, G5, G6, G7, S0, S1, S2, S3, x2, x3⟩, rfl, ⟨wg0, wg1, wg2, wg3, wg4, wg5, wg6, wg7, ws0, ws1, ws2, ws3, bounds_u16 w2, bounds_u16 w3⟩, ?_⟩
      simp only [Prod.mk.injEq] at hx
      rw [hx.2]
      subst d2 d3 hy hz
      simp [pg0, pg1, pg2, pg3, pg4, pg5, pg6, pg7, ps0, ps1, ps2, ps3]

set_option maxRecDepth 100000 in
theorem open_regs {r : Reach} {b0 : Nat} {v : Value} {d : DataW H} {p : List MemPlace} (hv : Value.okWide Tryz.prog w r b0 28 v) (h : DataW.Trod enc Tryz.prog w base spare held 28 v d p) : ∃ R : Regs, v = R.val ∧ R.wf ∧ p = [] := by
  obtain ⟨cs, rfl, hsz⟩ := okWide_struct Tryz.underlying28 hv
  have k : Tryz.prog.cellsOf 28 = 26 := by kernel_rfl
  rw [k] at hsz
  obtain ⟨l⟩ := cs
  obtain ⟨fuel, hf⟩ := h
  match l, hsz with
  | [c0, c1, c2, c3, c4, c5, c6, c7, c8, c9, c10, c11, c12, c13, c14, c15, c16, c17, c18, c19, c20, c21, c22, c23, c24, c25], _ => exact open_regs_list _ _ _ _ _ _ _ _ _ _ _ _ _ _ _ _ _ _ _ _ _ _ _ _ _ _ hf

/-- What was read of registers is read of them in every world. -/
theorem regs_stays {W W' : World} {d : DataW H} {r : Regs} (h : DataW.Trod enc Tryz.prog W base (fun _ => true) true 28 r.val d []) {sp : Nat → Bool} : DataW.Trod enc Tryz.prog W' base sp true 28 r.val d [] :=
  Go.WideElems.Trod_stays (by kernel_rfl) (by kernel_rfl) (by decide +kernel) h (fun p hp => by cases hp) (fun p hp => by cases hp)
theorem okWide_arr {P : Program} {r : Reach} {b0 : Nat} {n : Nat} {t e : TypeId} {v : Value} (ht : P.underlying t = some (.array n e)) (h : Value.okWide P w r b0 t v) : ∃ cs, v = .agg cs ∧ cs.size = P.cellsOf t := by
  simp only [Value.okWide, ht] at h
  obtain ⟨cs, h1, h2, _⟩ := h
  exact ⟨cs, h1, h2⟩
set_option maxRecDepth 100000 in
theorem open_a2 {r : Reach} {b0 : Nat} {v : Value} {d : DataW H} {p : List MemPlace} (hv : Value.okWide Tryz.prog w r b0 68 v) (h : DataW.Trod enc Tryz.prog w base spare held 68 v d p) :
    ∃ a b : Int, v = .agg #[.int .i64 a, .int .i64 b] ∧ ((-9223372036854775808 ≤ a ∧ a ≤ 9223372036854775807) ∧ (-9223372036854775808 ≤ b ∧ b ≤ 9223372036854775807)) ∧ p = [] := by
  obtain ⟨cs, rfl, hsz⟩ := okWide_arr Tryz.underlying68 hv
  have k : Tryz.prog.cellsOf 68 = 2 := by kernel_rfl
  have k0 : Tryz.prog.cellsOf 3 = 1 := by kernel_rfl
  rw [k] at hsz
  obtain ⟨l⟩ := cs
  obtain ⟨fuel, hf⟩ := h
  match l, hsz with
  | [c0, c1], _ =>
    obtain ⟨xs, m, _, hx, _, hlen, hg⟩ := DataW.trod_array Tryz.underlying68 hf
    match xs, hlen with
    | [y0, y1], _ =>
      have h0 := hg 0 (by decide)
      have h1 := hg 1 (by decide)
      simp only [Value.cells, k0, Nat.zero_mul, Nat.one_mul, Nat.reduceMul, List.drop_zero, List.take_succ_cons, List.take_zero, List.drop_succ_cons, List.getElem?_cons_zero, List.getElem?_cons_succ] at h0 h1
      obtain ⟨x0, e0, d0, w0⟩ := DataW.trod_int Tryz.underlying3 h0
      obtain ⟨x1, e1, d1, w1⟩ := DataW.trod_int Tryz.underlying3 h1
      simp only [List.cons.injEq, and_true] at e0 e1
      subst e0 e1
      simp only [Prod.mk.injEq] at hx
      refine ⟨x0, x1, rfl, ⟨bounds_i64 w0, bounds_i64 w1⟩, ?_⟩
      rw [hx.2, d0, d1]
      rfl
theorem a2_stays {W W' : World} {d : DataW H} {v : Value} (h : DataW.Trod enc Tryz.prog W base (fun _ => true) true 68 v d []) {sp : Nat → Bool} : DataW.Trod enc Tryz.prog W' base sp true 68 v d [] :=
  Go.WideElems.Trod_stays (by kernel_rfl) (by kernel_rfl) (by decide +kernel) h (fun p hp => by cases hp) (fun p hp => by cases hp)
def zeroRegs : Regs := ⟨zeroV, zeroV, zeroV, zeroV, zeroV, zeroV, zeroV, zeroV, zeroV, zeroV, zeroV, zeroV, 0, 0⟩
end

theorem i64_mask (n : Int) (k : Nat) (m : Int) (hk : m = ((2 ^ k - 1 : Nat) : Int)) (h63 : k < 63) : bits .and .i64 n m = n % ((2 ^ k : Nat) : Int) := by
  have hp : 2 ^ k ≤ 2 ^ 62 := Nat.pow_le_pow_right (by decide) (by omega)
  have h1 : 1 ≤ 2 ^ k := Nat.one_le_two_pow
  have hm : (BitVec.ofInt 64 m).toNat = 2 ^ k - 1 := by
    rw [BitVec.toNat_ofInt, hk]
    omega
  have key : (BitVec.ofInt 64 n &&& BitVec.ofInt 64 m).toNat = (n % ((2 ^ 64 : Nat) : Int)).toNat % 2 ^ k := by
    rw [BitVec.toNat_and, BitVec.toNat_ofInt, hm, Nat.and_two_pow_sub_one_eq_mod]
  show IntKind.i64.wrap ((BitVec.ofInt 64 n &&& BitVec.ofInt 64 m).toNat : Nat) = n % _
  have hd : ((2 ^ k : Nat) : Int) ∣ ((2 ^ 64 : Nat) : Int) := Int.natCast_dvd_natCast.2 (Nat.pow_dvd_pow 2 (by omega))
  have hr : 0 ≤ n % ((2 ^ 64 : Nat) : Int) := Int.emod_nonneg _ (by decide)
  have e1 : (((n % ((2 ^ 64 : Nat) : Int)).toNat % 2 ^ k : Nat) : Int) = n % ((2 ^ k : Nat) : Int) := by
    rw [Int.natCast_emod, Int.toNat_of_nonneg hr]
    exact Int.emod_emod_of_dvd n hd
  rw [key, e1, IntKind.wrap_i64]
  have h0 : 0 ≤ n % ((2 ^ k : Nat) : Int) := Int.emod_nonneg _ (by omega)
  have h2 : n % ((2 ^ k : Nat) : Int) < ((2 ^ k : Nat) : Int) := Int.emod_lt_of_pos _ (by omega)
  omega
end Go.Proofs.YtcglkefaopgjeaaGreatDoor

/- An instruction's bytes are read as the instruction, and as nothing else: plain laws, no walk. -/
namespace Go.Proofs.YtcglkefaopgjeaaGreatDoor
set_option linter.unusedSimpArgs false
set_option linter.unusedVariables false
open Go.RowKit

/-- Bytes from a place on. -/
def Reads (bs : Nat → Int) (n : Nat) (l : List Int) : Prop := ∀ k, k < l.length → bs (n + k) = l.getD k 0
theorem Reads.app {bs : Nat → Int} {n : Nat} {l1 l2 : List Int} (h : Reads bs n (l1 ++ l2)) : Reads bs n l1 ∧ Reads bs (n + l1.length) l2 := by
  refine ⟨fun k hk => ?_, fun k hk => ?_⟩
  · rw [h k (by rw [List.length_append]; omega)]
    simp [List.getD_eq_getElem?_getD, List.getElem?_append_left hk]
  · rw [Nat.add_assoc, h (l1.length + k) (by rw [List.length_append]; omega)]
    rw [List.getD_eq_getElem?_getD, List.getD_eq_getElem?_getD, List.getElem?_append_right (by omega), Nat.add_sub_cancel_left]
theorem Reads.get {bs : Nat → Int} {l : List Int} (h : Reads bs 0 l) (k : Nat) (v : Int) (hk : l[k]? = some v) : bs k = v := by
  have hl : k < l.length := by rcases Nat.lt_or_ge k l.length with e | e; exact e; rw [List.getElem?_eq_none e] at hk; cases hk
  have := h k hl
  rwa [Nat.zero_add, List.getD_eq_getElem?_getD, hk] at this
theorem Reads.at {bs : Nat → Int} {n : Nat} {l : List Int} (h : Reads bs n l) (k : Nat) (hk : k < l.length) : bs (n + k) = l.getD k 0 := h k hk

def pre0 (lock : Bool) : List Int := if lock then [240] else []
def pre1 (rep : Int) : List Int := if 0 < rep then [241 + rep] else []
def pre2 (seg : Int) : List Int := if 0 < seg then [30 + 8 * seg] else []
def preL (i : Inst) : List Int := pre0 i.lock ++ pre1 i.rep ++ pre2 i.seg
def dispL (d x : Int) : List Int := if d = 1 then [x % 256] else if d = 2 then [x % 256, x / 256] else []
def secL (i : Inst) (r : IRow) : List Int := if r.mod then (64 * i.mod + 8 * i.reg + i.rm) :: dispL (dispsOf i.mod i.rm) i.disp else []
def immL (n imm sel : Int) : List Int := if n = 1 then [imm % 256] else if n = 2 then [imm % 256, imm / 256] else if n = 4 then [imm % 256, imm / 256, sel % 256, sel / 256] else []
def putL (i : Inst) : List Int := preL i ++ (i.op :: (secL i ((instRow i.op i.reg).getD zRow) ++ immL (immsOf ((instRow i.op i.reg).getD zRow)) i.imm i.sel))

theorem ahead_put (bs : Nat → Int) (lock : Bool) (rep seg op : Int) (hr0 : 0 ≤ rep) (hr : rep ≤ 2) (hs0 : 0 ≤ seg) (hs : seg ≤ 4) (ho : isPre op = false)
    (h : Reads bs 0 (pre0 lock ++ pre1 rep ++ pre2 seg)) (hop : bs (pre0 lock ++ pre1 rep ++ pre2 seg).length = op) :
    aheadF bs 4 0 false 0 0 = some (op, (pre0 lock ++ pre1 rep ++ pre2 seg).length + 1, lock, rep, seg) := by
  have e1 : rep = 0 ∨ rep = 1 ∨ rep = 2 := by omega
  have e2 : seg = 0 ∨ seg = 1 ∨ seg = 2 ∨ seg = 3 ∨ seg = 4 := by omega
  cases lock <;> rcases e1 with rfl | rfl | rfl <;> rcases e2 with rfl | rfl | rfl | rfl | rfl <;>
    simp [pre0, pre1, pre2] at h hop ⊢ <;>
    have h0 := h.get 0 <;> have h1 := h.get 1 <;> have h2 := h.get 2 <;> clear h <;>
    simp_all [aheadF, isPre]

/-- What a row's numbers tell of each other: by the table. -/
def tailOf (r : IRow) : Int := if immOf r.a = 0 then r.b else r.a
def rowOk (op : Int) (r : IRow) : Bool :=
  (r.mod == twoOf op) && (immsOf r == immOf (tailOf r)) &&
  (immsOf r != 1 || ((decide (r.a = 9 ∨ r.b = 8)) == (tailOf r == 8 || tailOf r == 9)))
theorem rows_ok : ∀ op : Fin 256, ∀ reg : Fin 8, (match isaOf (op.val : Nat) (reg.val : Nat) with | none => true | some r => rowOk (op.val : Nat) r) = true := by decide +kernel
theorem row_ok {op reg : Int} {r : IRow} (h0 : 0 ≤ op) (h1 : op ≤ 255) (g0 : 0 ≤ reg) (g1 : reg ≤ 7) (h : isaOf op reg = some r) : rowOk op r = true := by
  obtain ⟨a, rfl⟩ := Int.eq_ofNat_of_zero_le h0
  obtain ⟨b, rfl⟩ := Int.eq_ofNat_of_zero_le g0
  have := rows_ok ⟨a, by omega⟩ ⟨b, by omega⟩
  rw [show ((⟨a, by omega⟩ : Fin 256).val) = a from rfl, show ((⟨b, by omega⟩ : Fin 8).val) = b from rfl, h] at this
  exact this
theorem fits_sign {x : Int} (h : fitsB x = true) : signW (x % 256) = x := by unfold fitsB at h; simpa using h

theorem second_put (bs : Nat → Int) (n : Nat) (i : Inst) (r : IRow) (hi : i.wf) (hm : r.mod = true) (hs : secondB i r = true) (h : Reads bs n (secL i r)) :
    secondF bs n (opI i.op i.lock i.rep i.seg) = ({ i with imm := 0, sel := 0 }, n + (secL i r).length) := by
  obtain ⟨lock, rep, seg, op, mod, reg, rm, disp, imm, sel⟩ := i
  have w1 := hi.mod
  have w2 := hi.reg
  have w3 := hi.rm
  have w4 := hi.disp
  dsimp only at w1 w2 w3 w4
  unfold secL at h ⊢
  rw [hm, if_pos rfl] at h ⊢
  dsimp only at h ⊢
  have b0 : bs n = 64 * mod + 8 * reg + rm := by have := h 0 (by simp); simpa using this
  have e1 : bs n / 64 = mod := by omega
  have e2 : bs n / 8 % 8 = reg := by omega
  have e3 : bs n % 8 = rm := by omega
  unfold secondB at hs
  rw [hm, if_neg (by decide)] at hs
  dsimp only at hs
  split at hs
  · cases hs
  unfold secondF
  dsimp only
  rw [e1, e2, e3]
  have hd : dispsOf mod rm = 0 ∨ dispsOf mod rm = 1 ∨ dispsOf mod rm = 2 := by unfold dispsOf; split; simp; split <;> simp
  rcases hd with e | e | e <;> rw [e] at hs h ⊢ <;> simp only [if_pos, if_neg, show ¬ (0 : Int) = 1 by decide, show ¬ (0 : Int) = 2 by decide, show ¬ (1 : Int) = 0 by decide, show ¬ (2 : Int) = 0 by decide, show ¬ (2 : Int) = 1 by decide, dispL] at hs h ⊢
  · have : disp = 0 := by simpa using hs
    subst this
    rfl
  · have b1 : bs (n + 1) = disp % 256 := by have := h 1 (by simp); simpa using this
    rw [b1, fits_sign hs]; rfl
  · have b1 : bs (n + 1) = disp % 256 := by have := h 1 (by simp); simpa using this
    have b2 : bs (n + 2) = disp / 256 := by have := h 2 (by simp); simpa using this
    rw [b1, b2, show disp % 256 + 256 * (disp / 256) = disp by omega]; rfl

theorem behind_put (bs : Nat → Int) (n : Nat) (i : Inst) (r : IRow) (hi : i.wf) (hb : behindB i r = true) (hk : immsOf r = immOf (tailOf r)) (h8 : immsOf r = 1 → ((r.a = 9 ∨ r.b = 8) ↔ (tailOf r = 8 ∨ tailOf r = 9)))
    (h : Reads bs n (immL (immsOf r) i.imm i.sel)) :
    behindF bs n { i with imm := 0, sel := 0 } r = (i, n + (immL (immsOf r) i.imm i.sel).length) := by
  obtain ⟨lock, rep, seg, op, mod, reg, rm, disp, imm, sel⟩ := i
  have w5 := hi.imm
  have w6 := hi.sel
  dsimp only at w5 w6 h ⊢
  have ht : (tailB imm sel r.name (tailOf r)).getD (imm == 0 && sel == 0) = true := by
    unfold behindB at hb
    dsimp only at hb
    unfold tailOf
    have hn : ∀ k, immOf k = 0 → tailB imm sel r.name k = none := by
      intro k hk
      unfold immOf at hk
      unfold tailB
      repeat' split at hk
      all_goals first | omega | (rw [if_neg (by omega), if_neg (by omega), if_neg (by omega), if_neg (by omega)])
    have hsm : ∀ k, immOf k ≠ 0 → ∃ b, tailB imm sel r.name k = some b := by
      intro k hk
      unfold immOf at hk
      unfold tailB
      repeat' split
      all_goals first | exact ⟨_, rfl⟩ | (exfalso; apply hk; rw [if_neg (by omega), if_neg (by omega), if_neg (by omega)])
    split
    · next e => rw [hn _ e] at hb; exact hb
    · next e =>
      obtain ⟨b, hb2⟩ := hsm _ e
      rw [hb2] at hb ⊢
      exact hb
  clear hb
  generalize tailOf r = k at hk h8 ht
  rw [hk] at h h8 ⊢
  unfold behindF
  rw [hk]
  unfold tailB at ht
  by_cases k6 : k = 6
  · subst k6
    simp only [immOf, immL, if_pos, true_or] at h ht h8 ⊢
    have b0 : bs n = imm % 256 := by have := h 0 (by simp); simpa using this
    have hno : ¬ (r.a = 9 ∨ r.b = 8) := by intro e; have := (h8 trivial).1 e; omega
    simp at ht
    rw [if_neg hno, b0]
    have : imm % 256 = imm := by omega
    rw [this]
    have : sel = 0 := ht.1.2
    subst this
    rfl
  · by_cases k89 : k = 8 ∨ k = 9
    · have e1 : immOf k = 1 := by unfold immOf; rw [if_pos (by omega)]
      rw [if_neg k6, if_pos k89] at ht
      rw [e1] at h h8 ⊢
      have hyes : (r.a = 9 ∨ r.b = 8) := (h8 rfl).2 k89
      simp only [immL, if_pos] at h ⊢
      have b0 : bs n = imm % 256 := by have := h 0 (by simp); simpa using this
      simp at ht
      rw [if_pos hyes, b0, fits_sign ht.1]
      have : sel = 0 := ht.2
      subst this
      rfl
    · by_cases k7 : k = 7 ∨ k = 10 ∨ k = 12 ∨ k = 13
      · have e1 : immOf k = 2 := by unfold immOf; rw [if_neg (by omega), if_pos k7]
        rw [if_neg k6, if_neg k89, if_pos k7] at ht
        rw [e1] at h ⊢
        simp only [immL, if_pos, if_neg, show ¬ (2 : Int) = 1 by decide] at h ⊢
        have b0 : bs n = imm % 256 := by have := h 0 (by simp); simpa using this
        have b1 : bs (n + 1) = imm / 256 := by have := h 1 (by simp); simpa using this
        simp at ht
        rw [b0, b1, show imm % 256 + 256 * (imm / 256) = imm by omega, ht]
        rfl
      · by_cases k11 : k = 11
        · subst k11
          have e1 : immOf 11 = 4 := by decide
          rw [e1] at h ⊢
          simp only [immL, if_pos, if_neg, show ¬ (4 : Int) = 1 by decide, show ¬ (4 : Int) = 2 by decide] at h ⊢
          have b0 : bs n = imm % 256 := by have := h 0 (by simp); simpa using this
          have b1 : bs (n + 1) = imm / 256 := by have := h 1 (by simp); simpa using this
          have b2 : bs (n + 2) = sel % 256 := by have := h 2 (by simp); simpa using this
          have b3 : bs (n + 3) = sel / 256 := by have := h 3 (by simp); simpa using this
          rw [b0, b1, b2, b3, show imm % 256 + 256 * (imm / 256) = imm by omega, show sel % 256 + 256 * (sel / 256) = sel by omega]
          rfl
        · have e1 : immOf k = 0 := by unfold immOf; rw [if_neg (by omega), if_neg (by omega), if_neg (by omega)]
          rw [if_neg k6, if_neg k89, if_neg k7, if_neg k11] at ht
          rw [e1] at h ⊢
          simp only [immL, if_neg, show ¬ (0 : Int) = 1 by decide, show ¬ (0 : Int) = 2 by decide, show ¬ (0 : Int) = 4 by decide] at h ⊢
          simp at ht
          rw [ht.1, ht.2]
          rfl

/-- An instruction's bytes are read as the instruction. -/
theorem take_put (bs : Nat → Int) (i : Inst) (hi : i.wf) (hm : mayB i = true) (hr0 : 0 ≤ i.rep) (hr : i.rep ≤ 2) (h : Reads bs 0 (putL i)) : takeF bs = some (i, (putL i).length) := by
  unfold mayB at hm
  cases hrow : instRow i.op i.reg with
  | none => rw [hrow] at hm; cases hm
  | some r =>
    have hm0 := hm
    rw [hrow] at hm
    simp only [Bool.and_eq_true] at hm
    obtain ⟨⟨h2, hb⟩, hp⟩ := hm
    have hpre : isPre i.op = false := by
      unfold instRow at hrow
      split at hrow
      · cases hrow
      · next e => simpa using e
    have hisa : isaOf i.op i.reg = some r := by rwa [instRow, hpre, if_neg (by decide)] at hrow
    have ok := row_ok hi.op.1 hi.op.2 hi.reg.1 hi.reg.2 hisa
    unfold rowOk at ok
    simp only [Bool.and_eq_true, beq_iff_eq] at ok
    obtain ⟨⟨k1, k2⟩, k3⟩ := ok
    unfold putL at h ⊢
    rw [hrow, Option.getD_some] at h ⊢
    obtain ⟨ha, hrest⟩ := h.app
    rw [Nat.zero_add] at hrest
    have hop : bs (preL i).length = i.op := by have := hrest 0 (by simp); simpa using this
    have hs : i.seg = i.seg := rfl
    have hseg : 0 ≤ i.seg ∧ i.seg ≤ 4 := by
      unfold prefixesB at hp
      simp only [Bool.and_eq_true, decide_eq_true_eq] at hp
      exact ⟨hp.1.2, hp.2⟩
    have e1 := ahead_put bs i.lock i.rep i.seg i.op hr0 hr hseg.1 hseg.2 hpre ha hop
    change aheadF bs 4 0 false 0 0 = some (i.op, (preL i).length + 1, i.lock, i.rep, i.seg) at e1
    unfold takeF
    rw [e1]
    dsimp only
    have hrest2 : Reads bs ((preL i).length + 1) (secL i r ++ immL (immsOf r) i.imm i.sel) := by
      have := (Reads.app (l1 := [i.op]) (l2 := secL i r ++ immL (immsOf r) i.imm i.sel) hrest).2
      exact this
    obtain ⟨hsec, himm⟩ := hrest2.app
    have e2 : twoF bs i.op ((preL i).length + 1) i.lock i.rep i.seg = ({ i with imm := 0, sel := 0 }, (preL i).length + 1 + (secL i r).length) := by
      unfold twoF
      cases hmod : r.mod with
      | true => rw [← k1, hmod, if_pos rfl]; exact second_put bs _ i r hi hmod h2 hsec
      | false =>
        rw [← k1, hmod, if_neg (by decide)]
        unfold secondB at h2
        rw [hmod, if_pos rfl] at h2
        simp only [Bool.and_eq_true, beq_iff_eq] at h2
        obtain ⟨⟨⟨q1, q2⟩, q3⟩, q4⟩ := h2
        unfold secL
        rw [hmod]
        simp only [Bool.false_eq_true, if_false, List.length_nil, Nat.add_zero]
        simp [opI, q1, q2, q3, q4]
    rw [e2]
    unfold restF
    dsimp only
    rw [hisa]
    dsimp only
    have h8 : immsOf r = 1 → ((r.a = 9 ∨ r.b = 8) ↔ (tailOf r = 8 ∨ tailOf r = 9)) := by
      intro e
      rw [e] at k3
      simp only [bne_self_eq_false, Bool.false_or, beq_iff_eq] at k3
      constructor
      · intro q
        rw [decide_eq_true q] at k3
        have := k3.symm
        simpa using this
      · intro q
        have : (tailOf r == 8 || tailOf r == 9) = true := by simpa using q
        rw [this] at k3
        exact of_decide_eq_true k3
    rw [behind_put bs _ i r hi hb k2 h8 himm]
    dsimp only
    have : mayB i = true := by unfold mayB; exact hm0
    rw [this, if_pos rfl]
    congr 2
    simp [List.length_append]
    omega
end Go.Proofs.YtcglkefaopgjeaaGreatDoor

/- The reference's instruction near any numbers is one that may be, and its bytes are bytes: plain laws, no walk. -/
namespace Go.Proofs.YtcglkefaopgjeaaGreatDoor
set_option linter.unusedSimpArgs false
set_option linter.unusedVariables false
open Go.RowKit

abbrev nopI : Inst := ⟨false, 0, 0, 144, 0, 0, 0, 0, 0, 0⟩
def nearRep (rep n : Int) : Int := if 0 < n ∧ 0 < rep % 4 then (if n = 2 ∧ rep % 2 = 1 then 1 else 2) else 0
def nearSeg (seg : Int) : Int := if seg % 8 ≤ 4 then seg % 8 else 0
def nearDisp (d disp : Int) : Int := if d = 1 then signW (disp % 256) else if d = 2 then disp else 0
def nearImm (k name imm : Int) : Int :=
  if k = 6 then (if name = 70 ∨ name = 71 then 10 else imm % 256) else if k = 8 ∨ k = 9 then signW (imm % 256) else
  if k = 7 ∨ k = 10 ∨ k = 12 ∨ k = 13 then imm else if k = 11 then imm else 0
def nearSel (k sel : Int) : Int := if k = 11 then sel else 0
/-- An instruction near one of any numbers, by its row. -/
def nearR (x : Inst) (r : IRow) : Inst :=
  ⟨x.lock, nearRep x.rep (repsOf r.name), nearSeg x.seg, x.op, if r.mod then x.mod % 4 else 0, if r.mod then x.reg % 8 else 0, if r.mod then x.rm % 8 else 0,
    if r.mod then nearDisp (dispsOf (x.mod % 4) (x.rm % 8)) x.disp else 0, nearImm (tailOf r) r.name x.imm, nearSel (tailOf r) x.sel⟩
def nearI (x : Inst) : Inst := match instRow x.op (x.reg % 8) with
  | none => nopI
  | some r => if mayB (nearR x r) then nearR x r else nopI

/-- Numbers of their kinds. -/
structure Inst.kinds (i : Inst) : Prop where
  op : 0 ≤ i.op ∧ i.op ≤ 255
  disp : 0 ≤ i.disp ∧ i.disp ≤ 65535
  imm : 0 ≤ i.imm ∧ i.imm ≤ 65535
  sel : 0 ≤ i.sel ∧ i.sel ≤ 65535
structure Inst.good (i : Inst) : Prop where
  wf : i.wf
  may : mayB i = true
  rep : 0 ≤ i.rep ∧ i.rep ≤ 2
  seg : 0 ≤ i.seg ∧ i.seg ≤ 4
theorem nop_good : nopI.good := ⟨⟨by decide, by decide, by decide, by decide, by decide, by decide, by decide⟩, by decide +kernel, by decide, by decide⟩
theorem nearR_wf (x : Inst) (h : x.kinds) (r : IRow) : (nearR x r).wf ∧ (0 ≤ (nearR x r).rep ∧ (nearR x r).rep ≤ 2) ∧ (0 ≤ (nearR x r).seg ∧ (nearR x r).seg ≤ 4) := by
  have s0 := signW_lo (x.disp % 256) (by omega)
  have s1 := signW_hi (x.disp % 256) (by omega)
  have t0 := signW_lo (x.imm % 256) (by omega)
  have t1 := signW_hi (x.imm % 256) (by omega)
  have hd := h.disp
  have hi := h.imm
  have hs := h.sel
  refine ⟨⟨h.op, ?_, ?_, ?_, ?_, ?_, ?_⟩, ?_, ?_⟩
  all_goals
    simp only [nearR, nearDisp, nearImm, nearSel, nearRep, nearSeg]
    repeat' split
    all_goals omega
theorem near_good (x : Inst) (h : x.kinds) : (nearI x).good := by
  unfold nearI
  split
  · exact nop_good
  · next r _ =>
    split
    · next e => exact ⟨(nearR_wf x h r).1, e, (nearR_wf x h r).2.1, (nearR_wf x h r).2.2⟩
    · exact nop_good
theorem preL_le (i : Inst) : (preL i).length ≤ 3 := by
  unfold preL pre0 pre1 pre2; simp only [List.length_append]; repeat' split
  all_goals simp
theorem secL_le (i : Inst) (r : IRow) : (secL i r).length ≤ 3 := by
  unfold secL dispL; repeat' split
  all_goals simp
theorem immL_le (n a b : Int) : (immL n a b).length ≤ 4 := by
  unfold immL; repeat' split
  all_goals simp
theorem putL_le (i : Inst) : (putL i).length ≤ 11 := by
  have h1 := preL_le i
  have h2 := secL_le i ((instRow i.op i.reg).getD zRow)
  have h3 := immL_le (immsOf ((instRow i.op i.reg).getD zRow)) i.imm i.sel
  unfold putL
  simp only [List.length_append, List.length_cons]
  omega
theorem putL_pos (i : Inst) : 1 ≤ (putL i).length := by
  unfold putL
  simp only [List.length_append, List.length_cons]
  omega
theorem putL_byte (i : Inst) (hi : i.good) : ∀ x ∈ putL i, 0 ≤ x ∧ x ≤ 255 := by
  have w := hi.wf
  have w1 := w.op
  have w2 := w.mod
  have w3 := w.reg
  have w4 := w.rm
  have w5 := w.disp
  have w6 := w.imm
  have w7 := w.sel
  have r := hi.rep
  have s := hi.seg
  intro x hx
  unfold putL preL pre0 pre1 pre2 secL dispL immL at hx
  simp only [List.mem_append, List.mem_cons] at hx
  repeat' split at hx
  all_goals
    simp only [List.mem_cons, List.not_mem_nil, or_false, false_or] at hx
    omega
end Go.Proofs.YtcglkefaopgjeaaGreatDoor

/- Instructions that came in by value: opened to what the walks take, and read again behind. -/
namespace Go.Proofs.YtcglkefaopgjeaaGreatDoor
set_option linter.unusedSimpArgs false
set_option linter.unusedVariables false
open Go.ChangeShapes Go.WideShapes Go.RowKit

section
variable {H : Type} {enc : TypeId × Value → H} {w : World} {base : Nat} {spare : Nat → Bool} {held : Bool}
set_option maxRecDepth 100000 in
theorem open_inst_list (c0 c1 c2 c3 c4 c5 c6 c7 c8 c9 : Value) {fuel : Nat} {d : DataW H} {p : List MemPlace} (hf : DataW.trod enc Tryz.prog w base spare held fuel 30 [c0, c1, c2, c3, c4, c5, c6, c7, c8, c9] = some (d, p)) : ∃ I : Inst, Value.agg #[c0, c1, c2, c3, c4, c5, c6, c7, c8, c9] = I.val ∧ I.kinds ∧ p = [] := by
  obtain ⟨xs, m, _, hx, _, hlen, hg⟩ := DataW.trod_struct Tryz.underlying30 hf
  have kb : Tryz.prog.cellsOf 4 = 1 := by kernel_rfl
  have ki : Tryz.prog.cellsOf 3 = 1 := by kernel_rfl
  have k8 : Tryz.prog.cellsOf 5 = 1 := by kernel_rfl
  have k16 : Tryz.prog.cellsOf 22 = 1 := by kernel_rfl
  match xs, hlen with
  | [y0, y1, y2, y3, y4, y5, y6, y7, y8, y9], _ =>
    have h0 := hg 0 _ rfl
    have h1 := hg 1 _ rfl
    have h2 := hg 2 _ rfl
    have h3 := hg 3 _ rfl
    have h4 := hg 4 _ rfl
    have h5 := hg 5 _ rfl
    have h6 := hg 6 _ rfl
    have h7 := hg 7 _ rfl
    have h8 := hg 8 _ rfl
    have h9 := hg 9 _ rfl
    simp only [List.getElem_toArray, List.getElem_cons_zero, List.getElem_cons_succ] at h0 h1 h2 h3 h4 h5 h6 h7 h8 h9
    simp only [Value.cells, kb, ki, k8, k16, List.drop_zero, List.take_succ_cons, List.take_zero, List.drop_succ_cons, List.getElem?_cons_zero, List.getElem?_cons_succ] at h0 h1 h2 h3 h4 h5 h6 h7 h8 h9
    obtain ⟨x0, e0, d0⟩ := DataW.trod_bool Tryz.underlying4 h0
    obtain ⟨x1, e1, d1, w1⟩ := DataW.trod_int Tryz.underlying3 h1
    obtain ⟨x2, e2, d2, w2⟩ := DataW.trod_int Tryz.underlying3 h2
    obtain ⟨x3, e3, d3, w3⟩ := DataW.trod_int Tryz.underlying5 h3
    obtain ⟨x4, e4, d4, w4⟩ := DataW.trod_int Tryz.underlying3 h4
    obtain ⟨x5, e5, d5, w5⟩ := DataW.trod_int Tryz.underlying3 h5
    obtain ⟨x6, e6, d6, w6⟩ := DataW.trod_int Tryz.underlying3 h6
    obtain ⟨x7, e7, d7, w7⟩ := DataW.trod_int Tryz.underlying22 h7
    obtain ⟨x8, e8, d8, w8⟩ := DataW.trod_int Tryz.underlying22 h8
    obtain ⟨x9, e9, d9, w9⟩ := DataW.trod_int Tryz.underlying22 h9
    simp only [List.cons.injEq, and_true] at e0 e1 e2 e3 e4 e5 e6 e7 e8 e9
    subst e0 e1 e2 e3 e4 e5 e6 e7 e8 e9
    have b3 := bounds_u8 w3
    refine ⟨⟨x0, x1, x2, x3, x4, x5, x6, x7, x8, x9⟩, rfl, ⟨b3, bounds_u16 w7, bounds_u16 w8, bounds_u16 w9⟩, ?_⟩
    simp only [Prod.mk.injEq] at hx
    rw [hx.2]
    subst d0 d1 d2 d3 d4 d5 d6 d7 d8 d9
    simp
set_option maxRecDepth 100000 in
theorem open_inst {r : Reach} {b0 : Nat} {v : Value} {d : DataW H} {p : List MemPlace} (hv : Value.okWide Tryz.prog w r b0 30 v) (h : DataW.Trod enc Tryz.prog w base spare held 30 v d p) : ∃ I : Inst, v = I.val ∧ I.kinds ∧ p = [] := by
  obtain ⟨cs, rfl, hsz⟩ := okWide_struct Tryz.underlying30 hv
  have k : Tryz.prog.cellsOf 30 = 10 := by kernel_rfl
  rw [k] at hsz
  obtain ⟨l⟩ := cs
  obtain ⟨fuel, hf⟩ := h
  match l, hsz with
  | [c0, c1, c2, c3, c4, c5, c6, c7, c8, c9], _ => exact open_inst_list _ _ _ _ _ _ _ _ _ _ hf
theorem inst_stays {W W' : World} {d : DataW H} {i : Inst} (h : DataW.Trod enc Tryz.prog W base (fun _ => true) true 30 i.val d []) {sp : Nat → Bool} : DataW.Trod enc Tryz.prog W' base sp true 30 i.val d [] :=
  Go.WideElems.Trod_stays (by kernel_rfl) (by kernel_rfl) (by decide +kernel) h (fun p hp => by cases hp) (fun p hp => by cases hp)
end
end Go.Proofs.YtcglkefaopgjeaaGreatDoor

/- Texts as lists of numbers: words, parts, and where a word stands: plain laws, no walk. -/
namespace Go.Proofs.YtcglkefaopgjeaaGreatDoor
set_option linter.unusedSimpArgs false
set_option linter.unusedVariables false
open Go.RowKit

/-- A text of numbers. -/
def B (l : List Nat) : ByteArray := ⟨⟨l.map UInt8.ofNat⟩⟩
def bytesOk (l : List Nat) : Prop := ∀ x ∈ l, x < 256
theorem B_size (l : List Nat) : (B l).size = l.length := by show (l.map UInt8.ofNat).toArray.size = _; simp
theorem B_get (l : List Nat) (hl : bytesOk l) (i : Nat) (h : i < (B l).size) : ((B l)[i]'h).toNat = l[i]'(by rw [B_size] at h; exact h) := by
  have e : (B l)[i]'h = UInt8.ofNat (l[i]'(by rw [B_size] at h; exact h)) := by
    show (B l).data[i]'h = _
    simp [B]
  rw [e]
  have := hl (l[i]'(by rw [B_size] at h; exact h)) (List.getElem_mem _)
  rw [UInt8.toNat_ofNat']
  exact Nat.mod_eq_of_lt this
theorem B_inj (l1 l2 : List Nat) (h1 : bytesOk l1) (h2 : bytesOk l2) : B l1 = B l2 ↔ l1 = l2 := by
  constructor
  · intro h
    have e : l1.map UInt8.ofNat = l2.map UInt8.ofNat := by
      have := congrArg (fun s : ByteArray => s.data.toList) h
      simpa [B] using this
    have e2 : (l1.map UInt8.ofNat).map UInt8.toNat = (l2.map UInt8.ofNat).map UInt8.toNat := congrArg _ e
    have key : ∀ l : List Nat, bytesOk l → (l.map UInt8.ofNat).map UInt8.toNat = l := by
      intro l hl
      rw [List.map_map]
      conv => rhs; rw [← List.map_id l]
      refine List.map_congr_left fun x hx => ?_
      show (UInt8.ofNat x).toNat = x
      rw [UInt8.toNat_ofNat']
      exact Nat.mod_eq_of_lt (hl x hx)
    rw [key l1 h1, key l2 h2] at e2
    exact e2
  · rintro rfl; rfl
theorem B_extract (l : List Nat) (a b : Nat) : (B l).extract a b = B ((l.drop a).take (b - a)) := by
  apply ByteArray.ext
  show ((B l).extract a b).data = _
  rw [ByteArray.data_extract]
  show ((l.map UInt8.ofNat).toArray).extract a b = _
  simp [B, List.extract_eq_take_drop, List.map_take, List.map_drop]
theorem bytesOk.drop {l : List Nat} (h : bytesOk l) (a : Nat) : bytesOk (l.drop a) := fun x hx => h x (List.mem_of_mem_drop hx)
theorem bytesOk.take {l : List Nat} (h : bytesOk l) (a : Nat) : bytesOk (l.take a) := fun x hx => h x (List.mem_of_mem_take hx)

def skipW : List Nat → Nat → List Nat
  | l, 0 => l
  | [], _ + 1 => []
  | l, n + 1 => skipW ((l.dropWhile (· != 32)).drop 1) n
def wordL (l : List Nat) (n : Nat) : List Nat := (skipW l n).takeWhile (· != 32)
def findA : List Nat → List Nat → List Nat → Nat → Nat
  | [], _, _, _ => 0
  | c :: r, acc, w, n => if c = 32 then (if acc = w then n else findA r [] w (n + 1)) else findA r (acc ++ [c]) w n
def findL (l w : List Nat) : Nat := findA l [] w 1
def partL (m : Nat) : List Nat → Nat → List Nat
  | l, 0 => l.takeWhile (· != m)
  | l, n + 1 => match l.dropWhile (· != m) with
    | [] => []
    | _ :: r => partL m r n
def wordsA : List Nat → List Nat → List (List Nat)
  | [], acc => if acc = [] then [] else [acc]
  | c :: r, acc => if c = 32 then acc :: wordsA r [] else wordsA r (acc ++ [c])
theorem skipW_nil (n : Nat) : skipW [] n = [] := by cases n <;> rfl
theorem wordsA_acc (l acc : List Nat) : ∀ n, (wordsA l acc).getD n [] = match n with | 0 => acc ++ l.takeWhile (· != 32) | n + 1 => wordL ((l.dropWhile (· != 32)).drop 1) n := by
  induction l generalizing acc with
  | nil =>
    intro n
    cases n with
    | zero => simp only [wordsA]; split <;> simp_all
    | succ n => simp only [wordsA]; split <;> simp [wordL, skipW_nil]
  | cons c r ih =>
    intro n
    simp only [wordsA]
    by_cases hc : c = 32
    · subst hc
      rw [if_pos rfl]
      cases n with
      | zero => simp
      | succ n =>
        simp only [List.getD_cons_succ]
        rw [ih []]
        cases n with
        | zero => simp [wordL, skipW, List.takeWhile]
        | succ n =>
          simp only [List.dropWhile, bne_self_eq_false]
          simp only [List.drop_succ_cons, List.drop_zero]
          unfold wordL
          cases r with
          | nil => simp [skipW_nil]
          | cons d r => rfl
    · rw [if_neg hc, ih]
      have h2 : (c != 32) = true := by simpa using hc
      cases n with
      | zero => simp [List.takeWhile_cons, h2]
      | succ n => simp [List.dropWhile_cons, h2]
theorem wordsA_word (l : List Nat) (n : Nat) : wordL l n = (wordsA l []).getD n [] := by
  rw [wordsA_acc]
  cases n with
  | zero => simp [wordL, skipW]
  | succ n =>
    cases l with
    | nil => simp [wordL, skipW_nil]
    | cons c r => rfl
theorem B_nil : B [] = { data := #[] } := rfl
attribute [irreducible] B
end Go.Proofs.YtcglkefaopgjeaaGreatDoor

/- The reference's texts: words of a text, its parts, and which word it is: walks. -/
namespace Go.Proofs.YtcglkefaopgjeaaGreatDoor
set_option linter.unusedSimpArgs false
set_option linter.unusedVariables false
open Go.RowKit

theorem skipW_drop (l : List Nat) (a n : Nat) (h : a < l.length) : skipW (l.drop a) (n + 1) = skipW (((l.drop a).dropWhile (· != 32)).drop 1) n := by
  cases he : l.drop a with
  | nil => rw [List.drop_eq_nil_iff] at he; omega
  | cons c r => rfl
/-- From a place on: where the next blank is. -/
theorem dropWhile_at (m : Nat) (l : List Nat) (a : Nat) (h : a < l.length) : (l.drop a).dropWhile (· != m) = if l[a] = m then l.drop a else (l.drop (a + 1)).dropWhile (· != m) := by
  rw [List.drop_eq_getElem_cons h, List.dropWhile_cons]
  by_cases e : l[a] = m
  · rw [if_pos e, if_neg (by simp [e])]
  · rw [if_neg e, if_pos (by simpa using e)]
theorem takeWhile_at (m : Nat) (l : List Nat) (a : Nat) (h : a < l.length) : (l.drop a).takeWhile (· != m) = if l[a] = m then [] else l[a] :: (l.drop (a + 1)).takeWhile (· != m) := by
  rw [List.drop_eq_getElem_cons h, List.takeWhile_cons]
  by_cases e : l[a] = m
  · rw [if_pos e, if_neg (by simp [e])]
  · rw [if_neg e, if_pos (by simpa using e)]
theorem B_beq (l1 l2 : List Nat) (h1 : bytesOk l1) (h2 : bytesOk l2) : ((B l1).toList == (B l2).toList) = decide (l1 = l2) := by
  rw [Bool.eq_iff_iff, beq_iff_eq, decide_eq_true_iff, ← B_inj l1 l2 h1 h2, ByteArray.toList_eq, ByteArray.toList_eq]
  constructor
  · intro e
    exact ByteArray.ext (Array.toList_inj.1 e)
  · intro e; rw [e]

theorem skipW_on (l : List Nat) (A D n : Nat) (hA : A < l.length) (hd : (l.drop D).dropWhile (· != 32) = (l.drop A).dropWhile (· != 32)) (he : (l.drop D).dropWhile (· != 32) = l.drop D) (K : Nat) (hK : K < n) (r : List Nat) (hr : skipW (l.drop A) (n - K) = r) : skipW (l.drop (D + 1)) (n - (K + 1)) = r := by
  rw [show n - K = n - (K + 1) + 1 by omega, skipW_drop l A _ hA, ← hd, he, List.drop_drop] at hr
  exact hr
theorem take_upto (m : Nat) (l : List Nat) (A D : Nat) (h : A ≤ D) (hD : D ≤ l.length) (hno : ∀ k, A ≤ k → (hk : k < D) → l[k]'(by omega) ≠ m) (he : D = l.length ∨ ∃ h : D < l.length, l[D] = m) : (l.drop A).takeWhile (· != m) = (l.drop A).take (D - A) := by
  obtain ⟨d, rfl⟩ : ∃ d, D = A + d := ⟨D - A, by omega⟩
  clear h
  induction d generalizing A with
  | zero =>
    rw [Nat.add_zero] at he
    rw [Nat.add_zero, Nat.sub_self, List.take_zero]
    rcases he with e | ⟨h, e⟩
    · rw [List.drop_eq_nil_of_le (by omega)]; rfl
    · rw [takeWhile_at m l A h, if_pos e]
  | succ d ih =>
    have hA : A < l.length := by omega
    rw [takeWhile_at m l A hA, if_neg (hno A (by omega) (by omega)), ih (A + 1) (by omega) (fun k h1 h2 => hno k (by omega) (by omega)) (by rw [show A + 1 + d = A + (d + 1) by omega]; exact he)]
    rw [List.drop_eq_getElem_cons hA, show A + (d + 1) - A = (A + 1 + d - (A + 1)) + 1 by omega, List.take_succ_cons]

set_option maxRecDepth 100000 in
set_option maxHeartbeats 3200000 in
theorem word_any4 (l : List Nat) (hl : bytesOk l) (hn : l.length ≤ 100000) (n : Nat) (hn2 : n ≤ 100000) (w : World) : Calls Tryz.prog 106 #[.string (B l), .int .i64 n] w fun e w' => e = .returned (.string (B (wordL l n))) ∧ w = w' := by
  have hs := B_size l
  go_enter Tryz.func106, Tryz.ntmps106
  go_wp2_with fail
  go_loop [5, 6] (fun a k => ∃ A K : Nat, a = .int .i64 A ∧ k = .int .i64 K ∧ K ≤ n ∧ A ≤ l.length + 1 ∧ skipW (l.drop A) (n - K) = skipW l n) (fun _ k => n - (intOf k).toNat)
  case atStart => exact ⟨0, 0, rfl, rfl, by omega, by omega, rfl⟩
  case round =>
    obtain ⟨A, K, rfl, rfl, hK, hA, hr⟩ := hrel
    by_cases hlt : K < n ∧ A < l.length
    · have i1 : (K : Int) < n := by omega
      have i2 : (A : Int) < (B l).size := by omega
      go_wp2_with fail
      go_loop [5] (fun a => ∃ D : Nat, a = .int .i64 D ∧ D ≤ l.length ∧ (l.drop D).dropWhile (· != 32) = (l.drop A).dropWhile (· != 32)) (fun a => l.length - (intOf a).toNat)
      case atStart => exact ⟨A, rfl, by omega, rfl⟩
      case round =>
        obtain ⟨D, rfl, hD, hd⟩ := hrel
        by_cases hx : D < l.length
        · have i3 : (D : Int) < (B l).size := by omega
          have i4 : D < (B l).size := by omega
          have i5 := B_get l hl D i4
          by_cases hy : l[D] = 32
          · have i6 : ((((B l)[D]'i4).toNat : Int) != 32) = false := by rw [i5, hy]; rfl
            go_wp2_with fail
            refine ⟨⟨D + 1, K + 1, by go_num, by go_num, by omega, by omega, ?_⟩, by simp [intOf] <;> omega⟩
            exact skipW_on l A D n hlt.2 hd (by rw [dropWhile_at 32 l D hx, if_pos hy]) K hlt.1 _ hr
          · have i6 : ((((B l)[D]'i4).toNat : Int) != 32) = true := by rw [i5]; simp; omega
            go_wp2_with fail
            refine ⟨⟨D + 1, by go_num, by omega, ?_⟩, by simp [intOf] <;> omega⟩
            rw [← hd, dropWhile_at 32 l D hx, if_neg hy]
        · have i3 : ¬ (D : Int) < (B l).size := by omega
          go_wp2_with fail
          refine ⟨⟨D + 1, K + 1, by go_num, by go_num, by omega, by omega, ?_⟩, by simp [intOf] <;> omega⟩
          exact skipW_on l A D n hlt.2 hd (by rw [List.drop_eq_nil_of_le (by omega)]; rfl) K hlt.1 _ hr
    · have hfin : skipW l n = l.drop A := by
        rw [← hr]
        by_cases h : A < l.length
        · rw [show n - K = 0 by omega]; simp [skipW]
        · rw [List.drop_eq_nil_of_le (by omega), skipW_nil]
      have HF := Lib.hid hfin
      clear hr hfin
      have hcase : ¬ K < n ∨ (K < n ∧ ¬ A < l.length) := by omega
      rcases hcase with h1 | ⟨h1, h2⟩
      · have i1 : ¬ (K : Int) < n := by omega
        go_wp2_with fail
        go_loop [7] (fun a => ∃ D : Nat, a = .int .i64 D ∧ A ≤ D ∧ D ≤ max A l.length ∧ ∀ k, A ≤ k → (hk : k < D) → (hk2 : k < l.length) → l[k] ≠ 32) (fun a => l.length - (intOf a).toNat)
        case atStart => exact ⟨A, rfl, by omega, by omega, fun k h1 h2 => by omega⟩
        case round =>
          obtain ⟨D, rfl, hAD, hD, hno⟩ := hrel
          by_cases hx : D < l.length
          · have i3 : (D : Int) < (B l).size := by omega
            have i4 : D < (B l).size := by omega
            have i5 := B_get l hl D i4
            by_cases hy : l[D] = 32
            · have i6 : ((((B l)[D]'i4).toNat : Int) != 32) = false := by rw [i5, hy]; rfl
              have i7 : ¬ (l.length : Int) ≤ (A : Int) := by omega
              have i8 : ¬ ((B l).size : Int) ≤ (A : Int) := by omega
              have HW := Lib.hid (show wordL l n = (l.drop A).take (D - A) by rw [wordL, HF.out]; exact take_upto 32 l A D hAD (by omega) (fun k h1 h2 => hno k h1 h2 (by omega)) (Or.inr ⟨hx, hy⟩))
              clear hno
              go_wp2_with fail
              all_goals
                go_ret
                rw [HW.out, ← B_extract]
                exact ⟨rfl, rfl⟩
            · have i6 : ((((B l)[D]'i4).toNat : Int) != 32) = true := by rw [i5]; simp; omega
              have HN := Lib.hid hno
              clear hno
              go_wp2_with fail
              all_goals
                refine ⟨⟨D + 1, by go_num, by omega, by omega, fun k h1 h2 h3 => ?_⟩, by simp [intOf]; omega⟩
                by_cases e : k = D
                · subst e; exact hy
                · exact HN.out k h1 (by omega) h3
          · have i3 : ¬ (D : Int) < (B l).size := by omega
            by_cases hz : A < l.length
            · have i7 : ¬ (l.length : Int) ≤ (A : Int) := by omega
              have i8 : ¬ ((B l).size : Int) ≤ (A : Int) := by omega
              have HW := Lib.hid (show wordL l n = (l.drop A).take (D - A) by rw [wordL, HF.out]; exact take_upto 32 l A D hAD (by omega) (fun k h1 h2 => hno k h1 h2 (by omega)) (Or.inl (by omega)))
              clear hno
              go_wp2_with fail
              all_goals
                go_ret
                rw [HW.out, ← B_extract]
                exact ⟨rfl, rfl⟩
            · have i7 : (l.length : Int) ≤ (A : Int) := by omega
              have i8 : ((B l).size : Int) ≤ (A : Int) := by omega
              have HW := Lib.hid (show wordL l n = [] by rw [wordL, HF.out, List.drop_eq_nil_of_le (by omega)]; rfl)
              clear hno
              go_wp2_with fail
              all_goals
                go_ret
                rw [HW.out, B_nil]
                exact ⟨rfl, rfl⟩
      · have i1 : (K : Int) < n := by omega
        have i2 : ¬ (A : Int) < (B l).size := by omega
        go_wp2_with fail
        go_loop [7] (fun a => ∃ D : Nat, a = .int .i64 D ∧ A ≤ D ∧ D ≤ max A l.length ∧ ∀ k, A ≤ k → (hk : k < D) → (hk2 : k < l.length) → l[k] ≠ 32) (fun a => l.length - (intOf a).toNat)
        case atStart => exact ⟨A, rfl, by omega, by omega, fun k h1 h2 => by omega⟩
        case round =>
          obtain ⟨D, rfl, hAD, hD, hno⟩ := hrel
          by_cases hx : D < l.length
          · have i3 : (D : Int) < (B l).size := by omega
            have i4 : D < (B l).size := by omega
            have i5 := B_get l hl D i4
            by_cases hy : l[D] = 32
            · have i6 : ((((B l)[D]'i4).toNat : Int) != 32) = false := by rw [i5, hy]; rfl
              have i7 : ¬ (l.length : Int) ≤ (A : Int) := by omega
              have i8 : ¬ ((B l).size : Int) ≤ (A : Int) := by omega
              have HW := Lib.hid (show wordL l n = (l.drop A).take (D - A) by rw [wordL, HF.out]; exact take_upto 32 l A D hAD (by omega) (fun k h1 h2 => hno k h1 h2 (by omega)) (Or.inr ⟨hx, hy⟩))
              clear hno
              go_wp2_with fail
              all_goals
                go_ret
                rw [HW.out, ← B_extract]
                exact ⟨rfl, rfl⟩
            · have i6 : ((((B l)[D]'i4).toNat : Int) != 32) = true := by rw [i5]; simp; omega
              have HN := Lib.hid hno
              clear hno
              go_wp2_with fail
              all_goals
                refine ⟨⟨D + 1, by go_num, by omega, by omega, fun k h1 h2 h3 => ?_⟩, by simp [intOf]; omega⟩
                by_cases e : k = D
                · subst e; exact hy
                · exact HN.out k h1 (by omega) h3
          · have i3 : ¬ (D : Int) < (B l).size := by omega
            by_cases hz : A < l.length
            · have i7 : ¬ (l.length : Int) ≤ (A : Int) := by omega
              have i8 : ¬ ((B l).size : Int) ≤ (A : Int) := by omega
              have HW := Lib.hid (show wordL l n = (l.drop A).take (D - A) by rw [wordL, HF.out]; exact take_upto 32 l A D hAD (by omega) (fun k h1 h2 => hno k h1 h2 (by omega)) (Or.inl (by omega)))
              clear hno
              go_wp2_with fail
              all_goals
                go_ret
                rw [HW.out, ← B_extract]
                exact ⟨rfl, rfl⟩
            · have i7 : (l.length : Int) ≤ (A : Int) := by omega
              have i8 : ((B l).size : Int) ≤ (A : Int) := by omega
              have HW := Lib.hid (show wordL l n = [] by rw [wordL, HF.out, List.drop_eq_nil_of_le (by omega)]; rfl)
              clear hno
              go_wp2_with fail
              all_goals
                go_ret
                rw [HW.out, B_nil]
                exact ⟨rfl, rfl⟩

/-- A part of a text, from a place on. -/
def partFrom (m : Nat) (l : List Nat) (F n : Nat) : List Nat := partL m (l.drop F) n
theorem partL_step (m : Nat) (l : List Nat) (D n : Nat) (h : D < l.length) (hm : l[D] = m) (F : Nat) (hF : F ≤ D) (hno : ∀ k, F ≤ k → (hk : k < D) → l[k]'(by omega) ≠ m) : partL m (l.drop F) (n + 1) = partL m (l.drop (D + 1)) n := by
  have e : (l.drop F).dropWhile (· != m) = l.drop D := by
    obtain ⟨d, rfl⟩ : ∃ d, D = F + d := ⟨D - F, by omega⟩
    clear hF
    induction d generalizing F with
    | zero => rw [dropWhile_at m l F (by omega), if_pos (by simpa using hm)]; rfl
    | succ d ih =>
      rw [dropWhile_at m l F (by omega), if_neg (hno F (by omega) (by omega))]
      have := ih (F + 1) (by omega) (by simpa [show F + 1 + d = F + (d + 1) by omega] using hm) (fun k h1 h2 => hno k (by omega) (by omega))
      rw [this, show F + 1 + d = F + (d + 1) by omega]
  rw [partL, e, List.drop_eq_getElem_cons h]
theorem dropWhile_none (m : Nat) (l : List Nat) (h : ∀ x ∈ l, x ≠ m) : l.dropWhile (· != m) = [] := by
  induction l with
  | nil => rfl
  | cons c r ih =>
    rw [List.dropWhile_cons, if_pos (by simpa using h c (by simp))]
    exact ih (fun x hx => h x (by simp [hx]))
theorem partL_end (m : Nat) (l : List Nat) (n F : Nat) (hno : ∀ k, F ≤ k → (hk : k < l.length) → l[k] ≠ m) : partL m (l.drop F) (n + 1) = [] := by
  have e : (l.drop F).dropWhile (· != m) = [] := by
    refine dropWhile_none m _ fun x hx => ?_
    obtain ⟨k, hk, rfl⟩ := List.getElem_of_mem hx
    rw [List.getElem_drop]
    exact hno (F + k) (by omega) (by simp at hk; omega)
  rw [partL, e]
theorem partL_nil (m n : Nat) : partL m [] n = [] := by cases n <;> rfl

set_option maxRecDepth 100000 in
set_option maxHeartbeats 3200000 in
theorem part_any4 (l : List Nat) (hl : bytesOk l) (hn : l.length ≤ 100000) (m : Nat) (hm : m < 256) (n : Nat) (hn2 : n ≤ 100000) (w : World) : Calls Tryz.prog 144 #[.string (B l), .int .u8 m, .int .i64 n] w fun e w' => e = .returned (.string (B (partL m l n))) ∧ w = w' := by
  have hs := B_size l
  go_enter Tryz.func144, Tryz.ntmps144
  go_wp2_with fail
  go_loop [2, 7, 8] (fun c f i => ∃ N F D : Nat, c = .int .i64 N ∧ f = .int .i64 F ∧ i = .int .i64 D ∧ N ≤ n ∧ F ≤ D ∧ D ≤ l.length + 1 ∧ (D ≤ l.length ∨ D ≤ F) ∧ partL m (l.drop F) N = partL m l n ∧ ∀ k, F ≤ k → (hk : k < D) → (hk2 : k < l.length) → l[k] ≠ m) (fun _ _ i => l.length + 1 - (intOf i).toNat)
  case atStart => exact ⟨n, 0, 0, rfl, rfl, rfl, by omega, by omega, by omega, by omega, rfl, fun k h1 h2 => by omega⟩
  case round =>
    obtain ⟨N, F, D, rfl, rfl, rfl, hN, hF, hD, hD2, hr, hno⟩ := hrel
    have HR := Lib.hid hr
    have HN := Lib.hid hno
    clear hr hno
    by_cases hx : D < l.length
    · have i3 : (D : Int) < (B l).size := by omega
      have i3b : (D : Int) ≤ (B l).size := by omega
      have i4 : D < (B l).size := by omega
      have i5 := B_get l hl D i4
      by_cases hy : l[D] = m
      · have i6 : ((((B l)[D]'i4).toNat : Int) != m) = false := by rw [i5, hy]; simp
        cases N with
        | zero =>
          have HW := Lib.hid (show partL m l n = (l.drop F).take (D - F) by rw [← HR.out, partL]; exact take_upto m l F D hF (by omega) (fun k h1 h2 => HN.out k h1 h2 (by omega)) (Or.inr ⟨hx, hy⟩))
          go_wp2_with fail
          all_goals
            go_ret
            rw [HW.out, ← B_extract]
            exact ⟨rfl, rfl⟩
        | succ N =>
          have i7 : (((N + 1 : Nat) : Int) == 0) = false := by simp; omega
          go_wp2_with fail
          all_goals
            refine ⟨⟨N, D + 1, D + 1, by go_num, by go_num, by go_num, by omega, by omega, by omega, by omega, ?_, fun k h1 h2 => by omega⟩, by simp [intOf] <;> omega⟩
            rw [← HR.out]
            exact (partL_step m l D N hx hy F hF (fun k h1 h2 => HN.out k h1 h2 (by omega))).symm
      · have i6 : ((((B l)[D]'i4).toNat : Int) != m) = true := by rw [i5]; simp; omega
        go_wp2_with fail
        all_goals
          refine ⟨⟨N, F, D + 1, by go_num, by go_num, by go_num, by omega, by omega, by omega, by omega, HR.out, fun k h1 h2 h3 => ?_⟩, by simp [intOf] <;> omega⟩
          by_cases e : k = D
          · subst e; exact hy
          · exact HN.out k h1 (by omega) h3
    · have i3 : ¬ (D : Int) < (B l).size := by omega
      by_cases hz : D = l.length
      · subst hz
        have i3b : (l.length : Int) ≤ (B l).size := by omega
        cases N with
        | zero =>
          have HW := Lib.hid (show partL m l n = (l.drop F).take (l.length - F) by rw [← HR.out, partL]; exact take_upto m l F _ hF (by omega) (fun k h1 h2 => HN.out k h1 h2 (by omega)) (Or.inl rfl))
          go_wp2_with fail
          all_goals
            go_ret
            rw [HW.out, ← B_extract]
            exact ⟨rfl, rfl⟩
        | succ N =>
          have i7 : (((N + 1 : Nat) : Int) == 0) = false := by simp; omega
          have HE := Lib.hid (show partL m l n = [] by rw [← HR.out]; exact partL_end m l N F (fun k h1 h2 => HN.out k h1 (by omega) h2))
          go_wp2_with fail
          all_goals
            refine ⟨⟨N, l.length + 1, l.length + 1, by go_num, by go_num, by go_num, by omega, by omega, by omega, by omega, ?_, fun k h1 h2 => by omega⟩, by simp [intOf] <;> omega⟩
            rw [HE.out, List.drop_eq_nil_of_le (by omega), partL_nil]
      · have i3b : ¬ (D : Int) ≤ (B l).size := by omega
        have HE := Lib.hid (show partL m l n = [] by
          rw [← HR.out]
          cases N with
          | zero => rw [List.drop_eq_nil_of_le (by omega), partL_nil]
          | succ N => exact partL_end m l N F (fun k h1 h2 => HN.out k h1 (by omega) h2))
        go_wp2_with fail
        all_goals
          go_ret
          rw [HE.out, B_nil]
          exact ⟨rfl, rfl⟩

theorem take_succ_at (l : List Nat) (F D : Nat) (hF : F ≤ D) (hD : D < l.length) : (l.drop F).take (D + 1 - F) = (l.drop F).take (D - F) ++ [l[D]] := by
  rw [show D + 1 - F = (D - F) + 1 by omega, List.take_add_one]
  congr 1
  rw [List.getElem?_drop, show F + (D - F) = D by omega, List.getElem?_eq_getElem hD]
  rfl

set_option maxRecDepth 100000 in
set_option maxHeartbeats 3200000 in
theorem find_any4 (l : List Nat) (hl : bytesOk l) (hn : l.length ≤ 100000) (x : List Nat) (hx : bytesOk x) (w : World) : Calls Tryz.prog 145 #[.string (B l), .string (B x)] w fun e w' => e = .returned (.int .i64 (findL l x)) ∧ w = w' := by
  have hs := B_size l
  go_enter Tryz.func145, Tryz.ntmps145
  go_wp2_with fail
  go_loop [5, 6, 7] (fun c f i => ∃ N F D : Nat, c = .int .i64 N ∧ f = .int .i64 F ∧ i = .int .i64 D ∧ N ≤ D + 1 ∧ F ≤ D ∧ D ≤ l.length ∧ findA (l.drop D) ((l.drop F).take (D - F)) x N = findL l x) (fun _ _ i => l.length - (intOf i).toNat)
  case atStart => exact ⟨1, 0, 0, rfl, rfl, rfl, by omega, by omega, by omega, rfl⟩
  case round =>
    obtain ⟨N, F, D, rfl, rfl, rfl, hN, hF, hD, hr⟩ := hrel
    have HR := Lib.hid hr
    clear hr
    by_cases hlt : D < l.length
    · have i3 : (D : Int) < (B l).size := by omega
      have i4 : D < (B l).size := by omega
      have i5 := B_get l hl D i4
      have hcons := List.drop_eq_getElem_cons hlt
      by_cases hy : l[D] = 32
      · have i6 : ((((B l)[D]'i4).toNat : Int) != 32) = false := by rw [i5, hy]; rfl
        by_cases hw : (l.drop F).take (D - F) = x
        · have i7 : (((B l).extract F D).toList == (B x).toList) = true := by rw [B_extract, B_beq _ _ ((hl.drop F).take _) hx]; exact decide_eq_true hw
          have HE := Lib.hid (show findL l x = N by rw [← HR.out, hcons, findA, if_pos hy, if_pos hw])
          clear hcons
          go_wp2_with fail
          all_goals
            go_ret
            rw [HE.out]
            exact ⟨rfl, rfl⟩
        · have i7 : (((B l).extract F D).toList == (B x).toList) = false := by rw [B_extract, B_beq _ _ ((hl.drop F).take _) hx]; exact decide_eq_false hw
          have HE := Lib.hid (show findA (l.drop (D + 1)) [] x (N + 1) = findL l x by rw [← HR.out, hcons, findA, if_pos hy, if_neg hw])
          clear hcons
          go_wp2_with fail
          all_goals
            refine ⟨⟨N + 1, D + 1, D + 1, by go_num, by go_num, by go_num, by omega, by omega, by omega, ?_⟩, by simp [intOf] <;> omega⟩
            rw [Nat.sub_self, List.take_zero]
            exact HE.out
      · have i6 : ((((B l)[D]'i4).toNat : Int) != 32) = true := by rw [i5]; simp; omega
        have HE := Lib.hid (show findA (l.drop (D + 1)) ((l.drop F).take (D + 1 - F)) x N = findL l x by rw [← HR.out, hcons, findA, if_neg hy, take_succ_at l F D hF hlt])
        clear hcons
        go_wp2_with fail
        all_goals
          refine ⟨⟨N, F, D + 1, by go_num, by go_num, by go_num, by omega, by omega, by omega, HE.out⟩, by simp [intOf] <;> omega⟩
    · have i3 : ¬ (D : Int) < (B l).size := by omega
      have HE := Lib.hid (show findL l x = 0 by rw [← HR.out, List.drop_eq_nil_of_le (by omega)]; rfl)
      go_wp2_with fail
      all_goals
        go_ret
        rw [HE.out]
        exact ⟨rfl, rfl⟩

theorem part_int (l : List Nat) (hl : bytesOk l) (hn : l.length ≤ 100000) (m : Nat) (hm : m < 256) (n : Nat) (hn2 : n ≤ 100000) (M N : Int) (hM : M = m) (hN : N = n) (w : World) : Calls Tryz.prog 144 #[.string (B l), .int .u8 M, .int .i64 N] w fun e w' => e = .returned (.string (B (partL m l n))) ∧ w = w' := by
  subst hM hN; exact part_any4 l hl hn m hm n hn2 w
theorem word_int (l : List Nat) (hl : bytesOk l) (hn : l.length ≤ 100000) (n : Nat) (hn2 : n ≤ 100000) (N : Int) (hN : N = n) (w : World) : Calls Tryz.prog 106 #[.string (B l), .int .i64 N] w fun e w' => e = .returned (.string (B (wordL l n))) ∧ w = w' := by
  subst hN; exact word_any4 l hl hn n hn2 w
end Go.Proofs.YtcglkefaopgjeaaGreatDoor

/- The reference's table, as numbers, says what isaOf says: plain laws, no walk. -/
namespace Go.Proofs.YtcglkefaopgjeaaGreatDoor
set_option linter.unusedSimpArgs false
set_option linter.unusedVariables false
open Go.RowKit
set_option maxRecDepth 100000

def T04 : List Nat := [65, 68, 68, 58, 69, 98, 58, 71, 98, 32, 65, 68, 68, 58, 69, 118, 58, 71, 118, 32, 65, 68, 68, 58, 71, 98, 58, 69, 98, 32, 65, 68, 68, 58, 71, 118, 58, 69, 118, 32, 65, 68, 68, 58, 65, 76, 58, 73, 98, 32, 65, 68, 68, 58, 65, 88, 58, 73, 118, 32, 80, 85, 83, 72, 58, 90, 115, 32, 80, 79, 80, 58, 90, 115, 32, 79, 82, 58, 69, 98, 58, 71, 98, 32, 79, 82, 58, 69, 118, 58, 71, 118, 32, 79, 82, 58, 71, 98, 58, 69, 98, 32, 79, 82, 58, 71, 118, 58, 69, 118, 32, 79, 82, 58, 65, 76, 58, 73, 98, 32, 79, 82, 58, 65, 88, 58, 73, 118, 32, 80, 85, 83, 72, 58, 90, 115, 32, 45, 32, 65, 68, 67, 58, 69, 98, 58, 71, 98, 32, 65, 68, 67, 58, 69, 118, 58, 71, 118, 32, 65, 68, 67, 58, 71, 98, 58, 69, 98, 32, 65, 68, 67, 58, 71, 118, 58, 69, 118, 32, 65, 68, 67, 58, 65, 76, 58, 73, 98, 32, 65, 68, 67, 58, 65, 88, 58, 73, 118, 32, 80, 85, 83, 72, 58, 90, 115, 32, 80, 79, 80, 58, 90, 115, 32, 83, 66, 66, 58, 69, 98, 58, 71, 98, 32, 83, 66, 66, 58, 69, 118, 58, 71, 118, 32, 83, 66, 66, 58, 71, 98, 58, 69, 98, 32, 83, 66, 66, 58, 71, 118, 58, 69, 118, 32, 83, 66, 66, 58, 65, 76, 58, 73, 98, 32, 83, 66, 66, 58, 65, 88, 58, 73, 118, 32, 80, 85, 83, 72, 58, 90, 115, 32, 80, 79, 80, 58, 90, 115, 32, 65, 78, 68, 58, 69, 98, 58, 71, 98, 32, 65, 78, 68, 58, 69, 118, 58, 71, 118, 32, 65, 78, 68, 58, 71, 98, 58, 69, 98, 32, 65, 78, 68, 58, 71, 118, 58, 69, 118, 32, 65, 78, 68, 58, 65, 76, 58, 73, 98, 32, 65, 78, 68, 58, 65, 88, 58, 73, 118, 32, 45, 32, 68, 65, 65, 32, 83, 85, 66, 58, 69, 98, 58, 71, 98, 32, 83, 85, 66, 58, 69, 118, 58, 71, 118, 32, 83, 85, 66, 58, 71, 98, 58, 69, 98, 32, 83, 85, 66, 58, 71, 118, 58, 69, 118, 32, 83, 85, 66, 58, 65, 76, 58, 73, 98, 32, 83, 85, 66, 58, 65, 88, 58, 73, 118, 32, 45, 32, 68, 65, 83, 32, 88, 79, 82, 58, 69, 98, 58, 71, 98, 32, 88, 79, 82, 58, 69, 118, 58, 71, 118, 32, 88, 79, 82, 58, 71, 98, 58, 69, 98, 32, 88, 79, 82, 58, 71, 118, 58, 69, 118, 32, 88, 79, 82, 58, 65, 76, 58, 73, 98, 32, 88, 79, 82, 58, 65, 88, 58, 73, 118, 32, 45, 32, 65, 65, 65, 32, 67, 77, 80, 58, 69, 98, 58, 71, 98, 32, 67, 77, 80, 58, 69, 118, 58, 71, 118, 32, 67, 77, 80, 58, 71, 98, 58, 69, 98, 32, 67, 77, 80, 58, 71, 118, 58, 69, 118, 32, 67, 77, 80, 58, 65, 76, 58, 73, 98, 32, 67, 77, 80, 58, 65, 88, 58, 73, 118, 32, 45, 32, 65, 65, 83, 32, 73, 78, 67, 58, 90, 118, 32, 73, 78, 67, 58, 90, 118, 32, 73, 78, 67, 58, 90, 118, 32, 73, 78, 67, 58, 90, 118, 32, 73, 78, 67, 58, 90, 118, 32, 73, 78, 67, 58, 90, 118, 32, 73, 78, 67, 58, 90, 118, 32, 73, 78, 67, 58, 90, 118, 32, 68, 69, 67, 58, 90, 118, 32, 68, 69, 67, 58, 90, 118, 32, 68, 69, 67, 58, 90, 118, 32, 68, 69, 67, 58, 90, 118, 32, 68, 69, 67, 58, 90, 118, 32, 68, 69, 67, 58, 90, 118, 32, 68, 69, 67, 58, 90, 118, 32, 68, 69, 67, 58, 90, 118, 32, 80, 85, 83, 72, 58, 90, 118, 32, 80, 85, 83, 72, 58, 90, 118, 32, 80, 85, 83, 72, 58, 90, 118, 32, 80, 85, 83, 72, 58, 90, 118, 32, 80, 85, 83, 72, 58, 90, 118, 32, 80, 85, 83, 72, 58, 90, 118, 32, 80, 85, 83, 72, 58, 90, 118, 32, 80, 85, 83, 72, 58, 90, 118, 32, 80, 79, 80, 58, 90, 118, 32, 80, 79, 80, 58, 90, 118, 32, 80, 79, 80, 58, 90, 118, 32, 80, 79, 80, 58, 90, 118, 32, 80, 79, 80, 58, 90, 118, 32, 80, 79, 80, 58, 90, 118, 32, 80, 79, 80, 58, 90, 118, 32, 80, 79, 80, 58, 90, 118, 32, 45, 32, 45, 32, 45, 32, 45, 32, 45, 32, 45, 32, 45, 32, 45, 32, 45, 32, 45, 32, 45, 32, 45, 32, 45, 32, 45, 32, 45, 32, 45, 32, 74, 79, 58, 74, 98, 32, 74, 78, 79, 58, 74, 98, 32, 74, 66, 58, 74, 98, 32, 74, 78, 66, 58, 74, 98, 32, 74, 90, 58, 74, 98, 32, 74, 78, 90, 58, 74, 98, 32, 74, 66, 69, 58, 74, 98, 32, 74, 65, 58, 74, 98, 32, 74, 83, 58, 74, 98, 32, 74, 78, 83, 58, 74, 98, 32, 74, 80, 58, 74, 98, 32, 74, 78, 80, 58, 74, 98, 32, 74, 76, 58, 74, 98, 32, 74, 71, 69, 58, 74, 98, 32, 74, 76, 69, 58, 74, 98, 32, 74, 71, 58, 74, 98, 32, 47, 65, 68, 68, 58, 69, 98, 58, 73, 98, 47, 79, 82, 58, 69, 98, 58, 73, 98, 47, 65, 68, 67, 58, 69, 98, 58, 73, 98, 47, 83, 66, 66, 58, 69, 98, 58, 73, 98, 47, 65, 78, 68, 58, 69, 98, 58, 73, 98, 47, 83, 85, 66, 58, 69, 98, 58, 73, 98, 47, 88, 79, 82, 58, 69, 98, 58, 73, 98, 47, 67, 77, 80, 58, 69, 98, 58, 73, 98, 32, 47, 65, 68, 68, 58, 69, 118, 58, 73, 118, 47, 79, 82, 58, 69, 118, 58, 73, 118, 47, 65, 68, 67, 58, 69, 118, 58, 73, 118, 47, 83, 66, 66, 58, 69, 118, 58, 73, 118, 47, 65, 78, 68, 58, 69, 118, 58, 73, 118, 47, 83, 85, 66, 58, 69, 118, 58, 73, 118, 47, 88, 79, 82, 58, 69, 118, 58, 73, 118, 47, 67, 77, 80, 58, 69, 118, 58, 73, 118, 32, 45, 32, 47, 65, 68, 68, 58, 69, 118, 58, 73, 115, 47, 45, 47, 65, 68, 67, 58, 69, 118, 58, 73, 115, 47, 83, 66, 66, 58, 69, 118, 58, 73, 115, 47, 45, 47, 83, 85, 66, 58, 69, 118, 58, 73, 115, 47, 45, 47, 67, 77, 80, 58, 69, 118, 58, 73, 115, 32, 84, 69, 83, 84, 58, 69, 98, 58, 71, 98, 32, 84, 69, 83, 84, 58, 69, 118, 58, 71, 118, 32, 88, 67, 72, 71, 58, 69, 98, 58, 71, 98, 32, 88, 67, 72, 71, 58, 69, 118, 58, 71, 118, 32, 77, 79, 86, 58, 69, 98, 58, 71, 98, 32, 77, 79, 86, 58, 69, 118, 58, 71, 118, 32, 77, 79, 86, 58, 71, 98, 58, 69, 98, 32, 77, 79, 86, 58, 71, 118, 58, 69, 118, 32, 47, 77, 79, 86, 58, 69, 118, 58, 83, 119, 47, 77, 79, 86, 58, 69, 118, 58, 83, 119, 47, 77, 79, 86, 58, 69, 118, 58, 83, 119, 47, 77, 79, 86, 58, 69, 118, 58, 83, 119, 47, 45, 47, 45, 47, 45, 47, 45, 32, 76, 69, 65, 58, 71, 118, 58, 77, 32, 47, 77, 79, 86, 58, 83, 119, 58, 69, 118, 47, 45, 47, 77, 79, 86, 58, 83, 119, 58, 69, 118, 47, 77, 79, 86, 58, 83, 119, 58, 69, 118, 47, 45, 47, 45, 47, 45, 47, 45, 32, 47, 80, 79, 80, 58, 69, 118, 47, 45, 47, 45, 47, 45, 47, 45, 47, 45, 47, 45, 47, 45, 32, 88, 67, 72, 71, 58, 65, 88, 58, 90, 118, 32, 88, 67, 72, 71, 58, 65, 88, 58, 90, 118, 32, 88, 67, 72, 71, 58, 65, 88, 58, 90, 118, 32, 88, 67, 72, 71, 58, 65, 88, 58, 90, 118, 32, 88, 67, 72, 71, 58, 65, 88, 58, 90, 118, 32, 88, 67, 72, 71, 58, 65, 88, 58, 90, 118, 32, 88, 67, 72, 71, 58, 65, 88, 58, 90, 118, 32, 88, 67, 72, 71, 58, 65, 88, 58, 90, 118, 32, 67, 66, 87, 32, 67, 87, 68, 32, 67, 65, 76, 76, 70, 58, 65, 112, 32, 87, 65, 73, 84, 32, 80, 85, 83, 72, 70, 32, 80, 79, 80, 70, 32, 83, 65, 72, 70, 32, 76, 65, 72, 70, 32, 77, 79, 86, 58, 65, 76, 58, 79, 98, 32, 77, 79, 86, 58, 65, 88, 58, 79, 118, 32, 77, 79, 86, 58, 79, 98, 58, 65, 76, 32, 77, 79, 86, 58, 79, 118, 58, 65, 88, 32, 77, 79, 86, 83, 66, 32, 77, 79, 86, 83, 87, 32, 67, 77, 80, 83, 66, 32, 67, 77, 80, 83, 87, 32, 84, 69, 83, 84, 58, 65, 76, 58, 73, 98, 32, 84, 69, 83, 84, 58, 65, 88, 58, 73, 118, 32, 83, 84, 79, 83, 66, 32, 83, 84, 79, 83, 87, 32, 76, 79, 68, 83, 66, 32, 76, 79, 68, 83, 87, 32, 83, 67, 65, 83, 66, 32, 83, 67, 65, 83, 87, 32, 77, 79, 86, 58, 90, 98, 58, 73, 98, 32, 77, 79, 86, 58, 90, 98, 58, 73, 98, 32, 77, 79, 86, 58, 90, 98, 58, 73, 98, 32, 77, 79, 86, 58, 90, 98, 58, 73, 98, 32, 77, 79, 86, 58, 90, 98, 58, 73, 98, 32, 77, 79, 86, 58, 90, 98, 58, 73, 98, 32, 77, 79, 86, 58, 90, 98, 58, 73, 98, 32, 77, 79, 86, 58, 90, 98, 58, 73, 98, 32, 77, 79, 86, 58, 90, 118, 58, 73, 118, 32, 77, 79, 86, 58, 90, 118, 58, 73, 118, 32, 77, 79, 86, 58, 90, 118, 58, 73, 118, 32, 77, 79, 86, 58, 90, 118, 58, 73, 118, 32, 77, 79, 86, 58, 90, 118, 58, 73, 118, 32, 77, 79, 86, 58, 90, 118, 58, 73, 118, 32, 77, 79, 86, 58, 90, 118, 58, 73, 118, 32, 77, 79, 86, 58, 90, 118, 58, 73, 118, 32, 45, 32, 45, 32, 82, 69, 84, 58, 73, 118, 32, 82, 69, 84, 32, 76, 69, 83, 58, 71, 118, 58, 77, 112, 32, 76, 68, 83, 58, 71, 118, 58, 77, 112, 32, 47, 77, 79, 86, 58, 69, 98, 58, 73, 98, 47, 45, 47, 45, 47, 45, 47, 45, 47, 45, 47, 45, 47, 45, 32, 47, 77, 79, 86, 58, 69, 118, 58, 73, 118, 47, 45, 47, 45, 47, 45, 47, 45, 47, 45, 47, 45, 47, 45, 32, 45, 32, 45, 32, 82, 69, 84, 70, 58, 73, 118, 32, 82, 69, 84, 70, 32, 73, 78, 84, 58, 84, 104, 114, 101, 101, 32, 73, 78, 84, 58, 73, 98, 32, 73, 78, 84, 79, 32, 73, 82, 69, 84, 32, 47, 82, 79, 76, 58, 69, 98, 58, 79, 110, 101, 47, 82, 79, 82, 58, 69, 98, 58, 79, 110, 101, 47, 82, 67, 76, 58, 69, 98, 58, 79, 110, 101, 47, 82, 67, 82, 58, 69, 98, 58, 79, 110, 101, 47, 83, 72, 76, 58, 69, 98, 58, 79, 110, 101, 47, 83, 72, 82, 58, 69, 98, 58, 79, 110, 101, 47, 45, 47, 83, 65, 82, 58, 69, 98, 58, 79, 110, 101, 32, 47, 82, 79, 76, 58, 69, 118, 58, 79, 110, 101, 47, 82, 79, 82, 58, 69, 118, 58, 79, 110, 101, 47, 82, 67, 76, 58, 69, 118, 58, 79, 110, 101, 47, 82, 67, 82, 58, 69, 118, 58, 79, 110, 101, 47, 83, 72, 76, 58, 69, 118, 58, 79, 110, 101, 47, 83, 72, 82, 58, 69, 118, 58, 79, 110, 101, 47, 45, 47, 83, 65, 82, 58, 69, 118, 58, 79, 110, 101, 32, 47, 82, 79, 76, 58, 69, 98, 58, 67, 76, 47, 82, 79, 82, 58, 69, 98, 58, 67, 76, 47, 82, 67, 76, 58, 69, 98, 58, 67, 76, 47, 82, 67, 82, 58, 69, 98, 58, 67, 76, 47, 83, 72, 76, 58, 69, 98, 58, 67, 76, 47, 83, 72, 82, 58, 69, 98, 58, 67, 76, 47, 45, 47, 83, 65, 82, 58, 69, 98, 58, 67, 76, 32, 47, 82, 79, 76, 58, 69, 118, 58, 67, 76, 47, 82, 79, 82, 58, 69, 118, 58, 67, 76, 47, 82, 67, 76, 58, 69, 118, 58, 67, 76, 47, 82, 67, 82, 58, 69, 118, 58, 67, 76, 47, 83, 72, 76, 58, 69, 118, 58, 67, 76, 47, 83, 72, 82, 58, 69, 118, 58, 67, 76, 47, 45, 47, 83, 65, 82, 58, 69, 118, 58, 67, 76, 32, 65, 65, 77, 58, 73, 98, 32, 65, 65, 68, 58, 73, 98, 32, 45, 32, 88, 76, 65, 84, 32, 69, 83, 67, 58, 69, 118, 32, 69, 83, 67, 58, 69, 118, 32, 69, 83, 67, 58, 69, 118, 32, 69, 83, 67, 58, 69, 118, 32, 69, 83, 67, 58, 69, 118, 32, 69, 83, 67, 58, 69, 118, 32, 69, 83, 67, 58, 69, 118, 32, 69, 83, 67, 58, 69, 118, 32, 76, 79, 79, 80, 78, 90, 58, 74, 98, 32, 76, 79, 79, 80, 90, 58, 74, 98, 32, 76, 79, 79, 80, 58, 74, 98, 32, 74, 67, 88, 90, 58, 74, 98, 32, 73, 78, 58, 65, 76, 58, 73, 98, 32, 73, 78, 58, 65, 88, 58, 73, 98, 32, 79, 85, 84, 58, 73, 98, 58, 65, 76, 32, 79, 85, 84, 58, 73, 98, 58, 65, 88, 32, 67, 65, 76, 76, 58, 74, 118, 32, 74, 77, 80, 58, 74, 118, 32, 74, 77, 80, 70, 58, 65, 112, 32, 74, 77, 80, 58, 74, 98, 32, 73, 78, 58, 65, 76, 58, 68, 88, 32, 73, 78, 58, 65, 88, 58, 68, 88, 32, 79, 85, 84, 58, 68, 88, 58, 65, 76, 32, 79, 85, 84, 58, 68, 88, 58, 65, 88, 32, 45, 32, 45, 32, 45, 32, 45, 32, 72, 76, 84, 32, 67, 77, 67, 32, 47, 84, 69, 83, 84, 58, 69, 98, 58, 73, 98, 47, 45, 47, 78, 79, 84, 58, 69, 98, 47, 78, 69, 71, 58, 69, 98, 47, 77, 85, 76, 58, 69, 98, 47, 73, 77, 85, 76, 58, 69, 98, 47, 68, 73, 86, 58, 69, 98, 47, 73, 68, 73, 86, 58, 69, 98, 32, 47, 84, 69, 83, 84, 58, 69, 118, 58, 73, 118, 47, 45, 47, 78, 79, 84, 58, 69, 118, 47, 78, 69, 71, 58, 69, 118, 47, 77, 85, 76, 58, 69, 118, 47, 73, 77, 85, 76, 58, 69, 118, 47, 68, 73, 86, 58, 69, 118, 47, 73, 68, 73, 86, 58, 69, 118, 32, 67, 76, 67, 32, 83, 84, 67, 32, 67, 76, 73, 32, 83, 84, 73, 32, 67, 76, 68, 32, 83, 84, 68, 32, 47, 73, 78, 67, 58, 69, 98, 47, 68, 69, 67, 58, 69, 98, 47, 45, 47, 45, 47, 45, 47, 45, 47, 45, 47, 45, 32, 47, 73, 78, 67, 58, 69, 118, 47, 68, 69, 67, 58, 69, 118, 47, 67, 65, 76, 76, 58, 69, 118, 47, 67, 65, 76, 76, 70, 58, 77, 112, 47, 74, 77, 80, 58, 69, 118, 47, 74, 77, 80, 70, 58, 77, 112, 47, 80, 85, 83, 72, 58, 69, 118, 47, 45, 32]
def N04 : List Nat := [65, 68, 68, 32, 79, 82, 32, 65, 68, 67, 32, 83, 66, 66, 32, 65, 78, 68, 32, 83, 85, 66, 32, 88, 79, 82, 32, 67, 77, 80, 32, 80, 85, 83, 72, 32, 80, 79, 80, 32, 68, 65, 65, 32, 68, 65, 83, 32, 65, 65, 65, 32, 65, 65, 83, 32, 73, 78, 67, 32, 68, 69, 67, 32, 74, 79, 32, 74, 78, 79, 32, 74, 66, 32, 74, 78, 66, 32, 74, 90, 32, 74, 78, 90, 32, 74, 66, 69, 32, 74, 65, 32, 74, 83, 32, 74, 78, 83, 32, 74, 80, 32, 74, 78, 80, 32, 74, 76, 32, 74, 71, 69, 32, 74, 76, 69, 32, 74, 71, 32, 84, 69, 83, 84, 32, 88, 67, 72, 71, 32, 77, 79, 86, 32, 76, 69, 65, 32, 67, 66, 87, 32, 67, 87, 68, 32, 67, 65, 76, 76, 32, 67, 65, 76, 76, 70, 32, 87, 65, 73, 84, 32, 80, 85, 83, 72, 70, 32, 80, 79, 80, 70, 32, 83, 65, 72, 70, 32, 76, 65, 72, 70, 32, 77, 79, 86, 83, 66, 32, 77, 79, 86, 83, 87, 32, 67, 77, 80, 83, 66, 32, 67, 77, 80, 83, 87, 32, 83, 84, 79, 83, 66, 32, 83, 84, 79, 83, 87, 32, 76, 79, 68, 83, 66, 32, 76, 79, 68, 83, 87, 32, 83, 67, 65, 83, 66, 32, 83, 67, 65, 83, 87, 32, 82, 69, 84, 32, 82, 69, 84, 70, 32, 76, 69, 83, 32, 76, 68, 83, 32, 73, 78, 84, 32, 73, 78, 84, 79, 32, 73, 82, 69, 84, 32, 82, 79, 76, 32, 82, 79, 82, 32, 82, 67, 76, 32, 82, 67, 82, 32, 83, 72, 76, 32, 83, 72, 82, 32, 83, 65, 82, 32, 65, 65, 77, 32, 65, 65, 68, 32, 88, 76, 65, 84, 32, 69, 83, 67, 32, 76, 79, 79, 80, 78, 90, 32, 76, 79, 79, 80, 90, 32, 76, 79, 79, 80, 32, 74, 67, 88, 90, 32, 73, 78, 32, 79, 85, 84, 32, 74, 77, 80, 32, 74, 77, 80, 70, 32, 72, 76, 84, 32, 67, 77, 67, 32, 78, 79, 84, 32, 78, 69, 71, 32, 77, 85, 76, 32, 73, 77, 85, 76, 32, 68, 73, 86, 32, 73, 68, 73, 86, 32, 67, 76, 67, 32, 83, 84, 67, 32, 67, 76, 73, 32, 83, 84, 73, 32, 67, 76, 68, 32, 83, 84, 68, 32]
def K04 : List Nat := [69, 98, 32, 69, 118, 32, 71, 98, 32, 71, 118, 32, 83, 119, 32, 73, 98, 32, 73, 118, 32, 73, 115, 32, 74, 98, 32, 74, 118, 32, 65, 112, 32, 79, 98, 32, 79, 118, 32, 65, 76, 32, 67, 76, 32, 65, 88, 32, 68, 88, 32, 79, 110, 101, 32, 77, 112, 32, 77, 32, 90, 98, 32, 90, 118, 32, 90, 115, 32, 84, 104, 114, 101, 101, 32]

def entryL (op reg : Nat) : List Nat := if (wordL T04 op).head? = some 47 then partL 47 (wordL T04 op) (reg % 8 + 1) else wordL T04 op
def secK (k : Nat) : Bool := (decide (1 ≤ k) && decide (k ≤ 5)) || k == 19 || k == 20
def rowOfL (s : List Nat) : Option IRow :=
  if s = [45] ∨ s = [] then none else
  some ⟨findL N04 (partL 58 s 0), findL K04 (partL 58 s 1), findL K04 (partL 58 s 2), secK (findL K04 (partL 58 s 1)) || secK (findL K04 (partL 58 s 2))⟩
def rowL (op reg : Nat) : Option IRow := rowOfL (entryL op reg)
instance decRow : DecidableEq IRow := fun x y => decidable_of_iff (x.name = y.name ∧ x.a = y.a ∧ x.b = y.b ∧ x.mod = y.mod) (by cases x; cases y; simp)
def entOf (s : List Nat) (reg : Nat) : List Nat := if s.head? = some 47 then partL 47 s (reg % 8 + 1) else s
def chk1 (s : List Nat) (op : Nat) : Bool :=
  if s.head? = some 47 then (List.range 8).all fun reg => decide (rowOfL (partL 47 s (reg + 1)) = isaOf op reg)
  else (let r := rowOfL s; (List.range 8).all fun reg => decide (r = isaOf op reg))
def chkA : List (List Nat) → Nat → Bool
  | [], _ => true
  | s :: r, op => chk1 s op && chkA r (op + 1)
theorem chk_all : chkA (wordsA T04 []) 0 = true ∧ (wordsA T04 []).length = 256 := by decide +kernel
theorem chkA_get (l : List (List Nat)) (o : Nat) (h : chkA l o = true) : ∀ k, k < l.length → chk1 (l.getD k []) (o + k) = true := by
  induction l generalizing o with
  | nil => intro k hk; simp at hk
  | cons s r ih =>
    rw [chkA, Bool.and_eq_true] at h
    intro k hk
    cases k with
    | zero => exact h.1
    | succ k =>
      have := ih (o + 1) h.2 k (by simpa using hk)
      rw [show o + (k + 1) = o + 1 + k by omega]
      simpa using this
theorem rowL_isa (op reg : Nat) (h1 : op < 256) (h2 : reg < 8) : rowL op reg = isaOf op reg := by
  have h := chkA_get _ _ chk_all.1 op (by rw [chk_all.2]; exact h1)
  rw [← wordsA_word, Nat.zero_add] at h
  unfold rowL entryL
  unfold chk1 at h
  have hm : reg % 8 = reg := Nat.mod_eq_of_lt h2
  rw [hm]
  split at h
  · next e =>
    rw [if_pos e]
    have := List.all_eq_true.1 h reg (List.mem_range.2 h2)
    simpa using this
  · next e =>
    rw [if_neg e]
    have := List.all_eq_true.1 h reg (List.mem_range.2 h2)
    simpa using this
theorem rowL_mod (op reg : Nat) : rowL op (reg % 8) = rowL op reg := by
  unfold rowL entryL
  rw [Nat.mod_mod]
def grpL (op : Nat) : Bool := decide ((wordL T04 op).head? = some 47) && op != 140 && op != 142
/-- The groups, in plain numbers. -/
def grpOf (op : Int) : Bool := op == 128 || op == 129 || op == 131 || op == 143 || op == 198 || op == 199 || (decide (208 ≤ op) && decide (op ≤ 211)) || op == 246 || op == 247 || op == 254 || op == 255
def grpA : List (List Nat) → Nat → Bool
  | [], _ => true
  | s :: r, op => ((decide (s.head? = some 47) && op != 140 && op != 142) == grpOf op) && grpA r (op + 1)
theorem grp_all : grpA (wordsA T04 []) 0 = true := by decide +kernel
theorem grpA_get (l : List (List Nat)) (o : Nat) (h : grpA l o = true) : ∀ k, k < l.length → (decide ((l.getD k []).head? = some 47) && (o + k) != 140 && (o + k) != 142) = grpOf ((o + k : Nat) : Int) := by
  induction l generalizing o with
  | nil => intro k hk; simp at hk
  | cons s r ih =>
    rw [grpA, Bool.and_eq_true] at h
    intro k hk
    cases k with
    | zero => simpa using h.1
    | succ k =>
      have := ih (o + 1) h.2 k (by simpa using hk)
      rw [show o + (k + 1) = o + 1 + k by omega]
      simpa using this
theorem grpL_of (op : Nat) (h1 : op < 256) : grpL op = grpOf op := by
  have h := grpA_get _ _ grp_all op (by rw [chk_all.2]; exact h1)
  rw [← wordsA_word, Nat.zero_add] at h
  exact h
/-- Which instructions may be repeated, by their names. -/
def repL (n : Nat) : Nat :=
  let s := if n < 1 ∨ 95 < n then [63] else wordL N04 (n - 1)
  if s = [77, 79, 86, 83, 66] ∨ s = [77, 79, 86, 83, 87] ∨ s = [83, 84, 79, 83, 66] ∨ s = [83, 84, 79, 83, 87] ∨ s = [76, 79, 68, 83, 66] ∨ s = [76, 79, 68, 83, 87] then 1
  else if s = [67, 77, 80, 83, 66] ∨ s = [67, 77, 80, 83, 87] ∨ s = [83, 67, 65, 83, 66] ∨ s = [83, 67, 65, 83, 87] then 2 else 0
theorem repL_of (n : Nat) (h : n ≤ 95) : (repL n : Int) = repsOf n := by
  have key : ∀ m : Fin 96, (repL m.val : Int) = repsOf ((m.val : Nat) : Int) := by decide +kernel
  exact key ⟨n, by omega⟩
theorem T04_ok : bytesOk T04 := by intro x hx; revert x; decide +kernel
theorem N04_ok : bytesOk N04 := by intro x hx; revert x; decide +kernel
theorem K04_ok : bytesOk K04 := by intro x hx; revert x; decide +kernel
end Go.Proofs.YtcglkefaopgjeaaGreatDoor

/- The reference's table: names, rows, bytes behind: walks. -/
namespace Go.Proofs.YtcglkefaopgjeaaGreatDoor
set_option linter.unusedSimpArgs false
set_option linter.unusedVariables false
open Go.RowKit

theorem calls_text {P : Program} {f : FuncId} {s t : ByteArray} {v : Value} {w : World} {K : Ending → World → Prop} (h : s = t) (hc : Calls P f #[.string t, v] w K) : Calls P f #[.string s, v] w K := h ▸ hc
theorem skipW_sub (l : List Nat) (n : Nat) : (∀ x ∈ skipW l n, x ∈ l) ∧ (skipW l n).length ≤ l.length := by
  induction n generalizing l with
  | zero => cases l <;> exact ⟨fun x hx => hx, Nat.le_refl _⟩
  | succ n ih =>
    cases l with
    | nil => exact ⟨fun x hx => hx, Nat.le_refl _⟩
    | cons c r =>
      have h := ih (((c :: r).dropWhile (· != 32)).drop 1)
      have hs : ((c :: r).dropWhile (· != 32)).drop 1 <:+ (c :: r) := (List.drop_suffix _ _).trans (List.dropWhile_suffix _)
      exact ⟨fun x hx => hs.subset (h.1 x hx), Nat.le_trans h.2 hs.length_le⟩
theorem wordL_ok {l : List Nat} (hl : bytesOk l) (n : Nat) : bytesOk (wordL l n) := fun x hx => hl x ((skipW_sub l n).1 x ((List.takeWhile_prefix _).subset hx))
theorem wordL_le (l : List Nat) (n : Nat) : (wordL l n).length ≤ l.length := Nat.le_trans (List.takeWhile_prefix _).length_le (skipW_sub l n).2
theorem partL_sub (m : Nat) (l : List Nat) (n : Nat) : (∀ x ∈ partL m l n, x ∈ l) ∧ (partL m l n).length ≤ l.length := by
  induction n generalizing l with
  | zero => exact ⟨fun x hx => (List.takeWhile_prefix _).subset hx, (List.takeWhile_prefix _).length_le⟩
  | succ n ih =>
    rw [partL]
    split
    · exact ⟨fun x hx => (by cases hx), Nat.zero_le _⟩
    · next c r h =>
      have hs : r <:+ l := (List.suffix_cons c r).trans (h ▸ List.dropWhile_suffix _)
      exact ⟨fun x hx => hs.subset ((ih r).1 x hx), Nat.le_trans (ih r).2 hs.length_le⟩
theorem partL_ok {l : List Nat} (hl : bytesOk l) (m n : Nat) : bytesOk (partL m l n) := fun x hx => hl x ((partL_sub m l n).1 x hx)
theorem entryL_ok (op reg : Nat) : bytesOk (entryL op reg) ∧ (entryL op reg).length ≤ 2651 := by
  have h := wordL_le T04 op
  have h2 := (partL_sub 47 (wordL T04 op) (reg % 8 + 1)).2
  have hl : T04.length = 2651 := by decide +kernel
  unfold entryL
  split
  · exact ⟨partL_ok (wordL_ok T04_ok op) _ _, by omega⟩
  · exact ⟨wordL_ok T04_ok op, by omega⟩
theorem T04_len : T04.length = 2651 := by decide +kernel
theorem N04_len : N04.length = 416 := by decide +kernel
theorem K04_len : K04.length = 75 := by decide +kernel

set_option maxRecDepth 100000 in
set_option maxHeartbeats 3200000 in
theorem entry_any4 (op reg : Nat) (h1 : op < 256) (h2 : reg < 8) (w : World) : Calls Tryz.prog 142 #[.int .u8 op, .int .i64 reg] w fun e w' => e = .returned (.string (B (entryL op reg))) ∧ w = w' := by
  go_enter Tryz.func142, Tryz.ntmps142
  go_wp2_with fail
  refine calls_text (t := B T04) (by kernel_rfl) ?_
  refine (word_any4 T04 T04_ok (by rw [T04_len]; omega) op (by omega) _).mono ?_
  rintro e w1 ⟨rfl, rfl⟩; dsimp only
  have hok : bytesOk (wordL T04 op) := wordL_ok T04_ok op
  have hle : (wordL T04 op).length ≤ 100000 := Nat.le_trans (wordL_le T04 op) (by rw [T04_len]; omega)
  have HE := Lib.hid (show entryL op reg = if (wordL T04 op).head? = some 47 then partL 47 (wordL T04 op) (reg % 8 + 1) else wordL T04 op from rfl)
  generalize wordL T04 op = s at hok hle HE ⊢
  have hs := B_size s
  cases s with
  | nil =>
    have i1 : ¬ 0 < (B []).size := by simp [hs]
    go_wp2_with fail
    all_goals
      go_ret
      rw [HE.out, if_neg (by simp)]
      exact ⟨rfl, rfl⟩
  | cons c r =>
    by_cases hc : c = 47
    · subst hc
      have i1 : 0 < (B (47 :: r)).size := by simp [hs]
      have i2 := B_get (47 :: r) hok 0 i1
      have i3 : (((B (47 :: r))[0].toNat : Int) == 47) = true := by rw [i2]; rfl
      go_wp2_with fail
      refine (part_int (47 :: r) hok hle 47 (by decide) (reg + 1) (by omega) _ _ (by rfl) (by rw [i64_and7]; unfold wrap64; omega) _).mono ?_
      rintro e w1 ⟨rfl, rfl⟩; dsimp only
      go_wp2_with fail
      go_ret
      rw [HE.out, if_pos (by simp), Nat.mod_eq_of_lt h2]
      exact ⟨rfl, rfl⟩
    · have i1 : 0 < (B (c :: r)).size := by simp [hs]
      have i2 := B_get (c :: r) hok 0 i1
      have i3 : (((B (c :: r))[0].toNat : Int) == 47) = false := by rw [i2]; simp; omega
      go_wp2_with fail
      all_goals
        go_ret
        rw [HE.out, if_neg (by simpa using hc)]
        exact ⟨rfl, rfl⟩

set_option maxRecDepth 100000 in
set_option maxHeartbeats 3200000 in
theorem grouped_any4 (op : Nat) (h1 : op < 256) (w : World) : Calls Tryz.prog 65 #[.int .u8 op] w fun e w' => e = .returned (.bool (grpOf op)) ∧ w = w' := by
  rw [← grpL_of op h1]
  go_enter Tryz.func65, Tryz.ntmps65
  go_wp2_with fail
  refine calls_text (t := B T04) (by kernel_rfl) ?_
  refine (word_any4 T04 T04_ok (by rw [T04_len]; omega) op (by omega) _).mono ?_
  rintro e w1 ⟨rfl, rfl⟩; dsimp only
  have hok : bytesOk (wordL T04 op) := wordL_ok T04_ok op
  have HE := Lib.hid (show grpL op = (decide ((wordL T04 op).head? = some 47) && op != 140 && op != 142) from rfl)
  generalize wordL T04 op = s at hok HE ⊢
  have hs := B_size s
  cases s with
  | nil =>
    have i1 : ¬ 0 < (B []).size := by simp [hs]
    go_wp2_with fail
    all_goals
      go_ret
      rw [HE.out]
      exact ⟨rfl, rfl⟩
  | cons c r =>
    by_cases hc : c = 47
    · subst hc
      have i1 : 0 < (B (47 :: r)).size := by simp [hs]
      have i2 := B_get (47 :: r) hok 0 i1
      have i3 : (((B (47 :: r))[0].toNat : Int) == 47) = true := by rw [i2]; rfl
      by_cases a1 : op = 140
      · have a2 : ((op : Int) != 140) = false := by rw [a1]; rfl
        clear a1
        go_wp2_with fail
        all_goals
          go_ret
          rw [HE.out, show (op != 140) = false by have : ¬ (op : Int) ≠ 140 := by simpa using a2
                                                  simp; omega]
          exact ⟨by simp, rfl⟩
      · have a2 : ((op : Int) != 140) = true := by simp; omega
        by_cases b1 : op = 142
        · have b2 : ((op : Int) != 142) = false := by rw [b1]; rfl
          have HX := Lib.hid b1
          clear a1 b1
          go_wp2_with fail
          all_goals
            go_ret
            rw [HE.out, HX.out]
            exact ⟨by simp, rfl⟩
        · have b2 : ((op : Int) != 142) = true := by simp; omega
          have HX := Lib.hid a1
          have HY := Lib.hid b1
          clear a1 b1
          go_wp2_with fail
          all_goals
            go_ret
            rw [HE.out]
            exact ⟨by simp [HX.out, HY.out], rfl⟩
    · have i1 : 0 < (B (c :: r)).size := by simp [hs]
      have i2 := B_get (c :: r) hok 0 i1
      have i3 : (((B (c :: r))[0].toNat : Int) == 47) = false := by rw [i2]; simp; omega
      go_wp2_with fail
      all_goals
        go_ret
        rw [HE.out]
        exact ⟨by simp [hc], rfl⟩
end Go.Proofs.YtcglkefaopgjeaaGreatDoor

/- The reference's table: names, rows, bytes behind: walks. -/
namespace Go.Proofs.YtcglkefaopgjeaaGreatDoor
set_option linter.unusedSimpArgs false
set_option linter.unusedVariables false
open Go.RowKit

def nameL (n : Nat) : List Nat := if n < 1 ∨ 95 < n then [63] else wordL N04 (n - 1)
theorem nameL_ok (n : Nat) : bytesOk (nameL n) := by
  unfold nameL
  split
  · intro x hx; simp at hx; omega
  · exact wordL_ok N04_ok _
theorem B_63 : ({ data := #[63] } : ByteArray) = B [63] := by kernel_rfl

set_option maxRecDepth 100000 in
set_option maxHeartbeats 3200000 in
theorem name_any4 (n : Nat) (hn : n ≤ 100000) (w : World) : Calls Tryz.prog 95 #[.int .i64 n] w fun e w' => e = .returned (.string (B (nameL n))) ∧ w = w' := by
  have HE := Lib.hid (show nameL n = if n < 1 ∨ 95 < n then [63] else wordL N04 (n - 1) from rfl)
  by_cases h1 : n < 1
  · have i1 : (n : Int) < 1 := by omega
    go_enter Tryz.func95, Tryz.ntmps95
    go_wp2_with fail
    go_ret
    rw [HE.out, if_pos (Or.inl h1), ← B_63]
    exact ⟨rfl, rfl⟩
  · have i1 : ¬ (n : Int) < 1 := by omega
    by_cases h2 : 95 < n
    · have i2 : (95 : Int) < (n : Int) := by omega
      go_enter Tryz.func95, Tryz.ntmps95
      go_wp2_with fail
      go_ret
      rw [HE.out, if_pos (Or.inr h2), ← B_63]
      exact ⟨rfl, rfl⟩
    · have i2 : ¬ (95 : Int) < (n : Int) := by omega
      go_enter Tryz.func95, Tryz.ntmps95
      go_wp2_with fail
      refine calls_text (t := B N04) (by kernel_rfl) ?_
      refine (word_int N04 N04_ok (by rw [N04_len]; omega) (n - 1) (by omega) _ (by first | omega | (unfold wrap64; omega)) _).mono ?_
      rintro e w1 ⟨rfl, rfl⟩; dsimp only
      go_wp2_with fail
      go_ret
      rw [HE.out, if_neg (by omega)]
      exact ⟨rfl, rfl⟩

set_option maxRecDepth 100000 in
set_option maxHeartbeats 3200000 in
theorem findName_any4 (x : List Nat) (hx : bytesOk x) (w : World) : Calls Tryz.prog 143 #[.string (B x)] w fun e w' => e = .returned (.int .i64 (findL N04 x)) ∧ w = w' := by
  go_enter Tryz.func143, Tryz.ntmps143
  go_wp2_with fail
  refine calls_text (t := B N04) (by kernel_rfl) ?_
  refine (find_any4 N04 N04_ok (by rw [N04_len]; omega) x hx _).mono ?_
  rintro e w1 ⟨rfl, rfl⟩; dsimp only
  go_wp2_with fail
  go_ret
  exact ⟨rfl, rfl⟩

set_option maxRecDepth 100000 in
set_option maxHeartbeats 3200000 in
theorem second_any4 (k : Nat) (w : World) : Calls Tryz.prog 146 #[.int .i64 k] w fun e w' => e = .returned (.bool (secK k)) ∧ w = w' := by
  have hc : (1 ≤ k ∧ k ≤ 5) ∨ k = 19 ∨ k = 20 ∨ (¬ (1 ≤ k ∧ k ≤ 5) ∧ k ≠ 19 ∧ k ≠ 20) := by omega
  rcases hc with ⟨a, b⟩ | rfl | rfl | ⟨a, b, c⟩
  · have i1 : (1 : Int) ≤ k := by omega
    have i2 : (k : Int) ≤ 5 := by omega
    go_enter Tryz.func146, Tryz.ntmps146
    go_wp2_with fail
    go_ret
    exact ⟨by simp [secK, a, b], rfl⟩
  · go_enter Tryz.func146, Tryz.ntmps146
    go_wp2_with fail
    go_ret
    exact ⟨by rfl, rfl⟩
  · go_enter Tryz.func146, Tryz.ntmps146
    go_wp2_with fail
    go_ret
    exact ⟨by rfl, rfl⟩
  · have HC := Lib.hid (show secK k = false by simp [secK, b, c]; omega)
    have j1 : ((k : Int) == 19) = false := by simp; omega
    have j2 : ((k : Int) == 20) = false := by simp; omega
    have hcc : ¬ (1 : Int) ≤ k ∨ ((1 : Int) ≤ k ∧ ¬ (k : Int) ≤ 5) := by omega
    clear a b c
    rcases hcc with i1 | ⟨i1, i2⟩
    · go_enter Tryz.func146, Tryz.ntmps146
      go_wp2_with fail
      go_ret
      exact ⟨by rw [HC.out]; rfl, rfl⟩
    · go_enter Tryz.func146, Tryz.ntmps146
      go_wp2_with fail
      go_ret
      exact ⟨by rw [HC.out]; rfl, rfl⟩

set_option maxHeartbeats 3200000 in
theorem bytes_any4 (k : Int) (w : World) : Calls Tryz.prog 46 #[.int .i64 k] w fun e w' => e = .returned (.int .i64 (immOf k)) ∧ w = w' := by
  have hc : k = 6 ∨ k = 8 ∨ k = 9 ∨ k = 7 ∨ k = 10 ∨ k = 12 ∨ k = 13 ∨ k = 11 ∨ (k ≠ 6 ∧ k ≠ 8 ∧ k ≠ 9 ∧ k ≠ 7 ∧ k ≠ 10 ∧ k ≠ 12 ∧ k ≠ 13 ∧ k ≠ 11) := by omega
  rcases hc with rfl | rfl | rfl | rfl | rfl | rfl | rfl | rfl | ⟨a1, a2, a3, a4, a5, a6, a7, a8⟩
  case inr.inr.inr.inr.inr.inr.inr.inr =>
    have HE := Lib.hid (show immOf k = 0 by unfold immOf; rw [if_neg (by omega), if_neg (by omega), if_neg (by omega)])
    have b1 : (k == 6) = false := by simpa using a1
    have b2 : (k == 8) = false := by simpa using a2
    have b3 : (k == 9) = false := by simpa using a3
    have b4 : (k == 7) = false := by simpa using a4
    have b5 : (k == 10) = false := by simpa using a5
    have b6 : (k == 12) = false := by simpa using a6
    have b7 : (k == 13) = false := by simpa using a7
    have b8 : (k == 11) = false := by simpa using a8
    clear a1 a2 a3 a4 a5 a6 a7 a8
    go_enter Tryz.func46, Tryz.ntmps46
    go_wp2_with fail
    go_ret
    rw [HE.out]
    exact ⟨rfl, rfl⟩
  all_goals
    go_enter Tryz.func46, Tryz.ntmps46
    go_wp2_with fail
    go_ret
    exact ⟨rfl, rfl⟩

set_option maxHeartbeats 3200000 in
theorem disps_any5 (mod rm : Int) (w : World) : Calls Tryz.prog 44 #[.int .i64 mod, .int .i64 rm] w fun e w' => e = .returned (.int .i64 (dispsOf mod rm)) ∧ w = w' := by
  have hc : mod = 1 ∨ mod = 2 ∨ (mod = 0 ∧ rm = 6) ∨ (mod = 0 ∧ rm ≠ 6) ∨ (mod ≠ 0 ∧ mod ≠ 1 ∧ mod ≠ 2) := by omega
  rcases hc with rfl | rfl | ⟨rfl, rfl⟩ | ⟨rfl, h⟩ | ⟨g0, g1, g2⟩
  · go_enter Tryz.func44, Tryz.ntmps44
    go_wp2
    go_ret
    exact ⟨rfl, rfl⟩
  · go_enter Tryz.func44, Tryz.ntmps44
    go_wp2
    go_ret
    exact ⟨rfl, rfl⟩
  · go_enter Tryz.func44, Tryz.ntmps44
    go_wp2
    go_ret
    exact ⟨rfl, rfl⟩
  · have t : (rm == 6) = false := by simpa using h
    have HE := Lib.hid (show dispsOf 0 rm = 0 by simp [dispsOf, h])
    clear h
    go_enter Tryz.func44, Tryz.ntmps44
    go_wp2
    go_ret
    rw [HE.out]
    exact ⟨rfl, rfl⟩
  · have t0 : (mod == 0) = false := by simpa using g0
    have t1 : (mod == 1) = false := by simpa using g1
    have t2 : (mod == 2) = false := by simpa using g2
    have HE := Lib.hid (show dispsOf mod rm = 0 by simp [dispsOf, g0, g1, g2])
    clear g0 g1 g2
    go_enter Tryz.func44, Tryz.ntmps44
    go_wp2
    go_ret
    rw [HE.out]
    exact ⟨rfl, rfl⟩

set_option maxHeartbeats 3200000 in
theorem sign_any1 (b : Int) (w : World) (h0 : 0 ≤ b) (h1 : b ≤ 255) : Calls Tryz.prog 45 #[.int .u8 b] w fun e w' => e = .returned (.int .u16 (signW b)) ∧ w = w' := by
  have HE := Lib.hid (show signW b = if b < 128 then b else b + 65280 from rfl)
  by_cases h : b < 128
  · go_enter Tryz.func45, Tryz.ntmps45
    go_wp2
    go_ret
    rw [HE.out, if_pos h]
    exact ⟨by first | rfl | (refine ret_int ?_; rw [IntKind.wrap_u16]; omega), rfl⟩
  · go_enter Tryz.func45, Tryz.ntmps45
    go_wp2
    go_ret
    rw [HE.out, if_neg (by omega)]
    exact ⟨by refine ret_int ?_; first | omega | (rw [IntKind.wrap_u16]; omega), rfl⟩

theorem fitsB_iff (x : Int) (h0 : 0 ≤ x) (h1 : x ≤ 65535) : fitsB x = (decide (x < 128) || decide (65408 ≤ x)) := by
  unfold fitsB signW
  rw [Bool.eq_iff_iff]
  simp only [beq_iff_eq, Bool.or_eq_true, decide_eq_true_eq]
  split <;> omega
set_option maxHeartbeats 3200000 in
theorem fits_any1 (x : Int) (w : World) (h0 : 0 ≤ x) (h1 : x ≤ 65535) : Calls Tryz.prog 96 #[.int .u16 x] w fun e w' => e = .returned (.bool (fitsB x)) ∧ w = w' := by
  have HE := Lib.hid (fitsB_iff x h0 h1)
  by_cases h : x < 128
  · go_enter Tryz.func96, Tryz.ntmps96
    go_wp2
    go_ret
    rw [HE.out]
    exact ⟨by simp [h], rfl⟩
  · go_enter Tryz.func96, Tryz.ntmps96
    go_wp2
    all_goals
      go_ret
      rw [HE.out]
      exact ⟨by simp_all <;> omega, rfl⟩
set_option maxHeartbeats 400000 in
theorem prefix_any5 (c : Int) (w : World) : Calls Tryz.prog 93 #[.int .u8 c] w fun e w' => e = .returned (.bool (isPre c)) ∧ w = w' := by
  have hc : (c = 38 ∨ c = 46 ∨ c = 54 ∨ c = 62 ∨ c = 240 ∨ c = 242 ∨ c = 243) ∨ ((c == 38) = false ∧ (c == 46) = false ∧ (c == 54) = false ∧ (c == 62) = false ∧ (c == 240) = false ∧ (c == 242) = false ∧ (c == 243) = false) := by
    simp only [beq_eq_false_iff_ne]; omega
  rcases hc with (rfl | rfl | rfl | rfl | rfl | rfl | rfl) | ⟨h1, h2, h3, h4, h5, h6, h7⟩
  all_goals
    go_enter Tryz.func93, Tryz.ntmps93
    go_wp2
    go_ret
    exact ⟨by simp [isPre, *], rfl⟩
end Go.Proofs.YtcglkefaopgjeaaGreatDoor

/- The reference's table: which are repeated; rows. -/
namespace Go.Proofs.YtcglkefaopgjeaaGreatDoor
set_option linter.unusedSimpArgs false
set_option linter.unusedVariables false
open Go.RowKit

theorem repL_name (n : Nat) : repL n = if nameL n = [77, 79, 86, 83, 66] ∨ nameL n = [77, 79, 86, 83, 87] ∨ nameL n = [83, 84, 79, 83, 66] ∨ nameL n = [83, 84, 79, 83, 87] ∨ nameL n = [76, 79, 68, 83, 66] ∨ nameL n = [76, 79, 68, 83, 87] then 1 else if nameL n = [67, 77, 80, 83, 66] ∨ nameL n = [67, 77, 80, 83, 87] ∨ nameL n = [83, 67, 65, 83, 66] ∨ nameL n = [83, 67, 65, 83, 87] then 2 else 0 := rfl
set_option maxRecDepth 100000 in
set_option maxHeartbeats 3200000 in
theorem repeats_any4 (n : Nat) (hn : n ≤ 95) (w : World) : Calls Tryz.prog 47 #[.int .i64 n] w fun e w' => e = .returned (.int .i64 (repsOf n)) ∧ w = w' := by
  have HE := Lib.hid ((repL_of n hn).symm.trans (congrArg (fun z : Nat => (z : Int)) (repL_name n)))
  have hok := nameL_ok n
  go_enter Tryz.func47, Tryz.ntmps47
  go_wp2_with fail
  refine (name_any4 n (by omega) _).mono ?_
  rintro e w1 ⟨rfl, rfl⟩; dsimp only
  generalize nameL n = s at hok HE ⊢
  have f0 : ∀ x : List Nat, bytesOk x → ((B s).toList == (B x).toList) = decide (s = x) := fun x hx => B_beq s x hok hx
  have t0 : ({ data := #[77, 79, 86, 83, 66] } : ByteArray) = B [77, 79, 86, 83, 66] := by kernel_rfl
  have t1 : ({ data := #[77, 79, 86, 83, 87] } : ByteArray) = B [77, 79, 86, 83, 87] := by kernel_rfl
  have t2 : ({ data := #[83, 84, 79, 83, 66] } : ByteArray) = B [83, 84, 79, 83, 66] := by kernel_rfl
  have t3 : ({ data := #[83, 84, 79, 83, 87] } : ByteArray) = B [83, 84, 79, 83, 87] := by kernel_rfl
  have t4 : ({ data := #[76, 79, 68, 83, 66] } : ByteArray) = B [76, 79, 68, 83, 66] := by kernel_rfl
  have t5 : ({ data := #[76, 79, 68, 83, 87] } : ByteArray) = B [76, 79, 68, 83, 87] := by kernel_rfl
  have t6 : ({ data := #[67, 77, 80, 83, 66] } : ByteArray) = B [67, 77, 80, 83, 66] := by kernel_rfl
  have t7 : ({ data := #[67, 77, 80, 83, 87] } : ByteArray) = B [67, 77, 80, 83, 87] := by kernel_rfl
  have t8 : ({ data := #[83, 67, 65, 83, 66] } : ByteArray) = B [83, 67, 65, 83, 66] := by kernel_rfl
  have t9 : ({ data := #[83, 67, 65, 83, 87] } : ByteArray) = B [83, 67, 65, 83, 87] := by kernel_rfl
  have u0 := f0 [77, 79, 86, 83, 66] (by intro x hx; revert x; decide)
  rw [← t0, ByteArray.toList_mk [77, 79, 86, 83, 66]] at u0
  have u1 := f0 [77, 79, 86, 83, 87] (by intro x hx; revert x; decide)
  rw [← t1, ByteArray.toList_mk [77, 79, 86, 83, 87]] at u1
  have u2 := f0 [83, 84, 79, 83, 66] (by intro x hx; revert x; decide)
  rw [← t2, ByteArray.toList_mk [83, 84, 79, 83, 66]] at u2
  have u3 := f0 [83, 84, 79, 83, 87] (by intro x hx; revert x; decide)
  rw [← t3, ByteArray.toList_mk [83, 84, 79, 83, 87]] at u3
  have u4 := f0 [76, 79, 68, 83, 66] (by intro x hx; revert x; decide)
  rw [← t4, ByteArray.toList_mk [76, 79, 68, 83, 66]] at u4
  have u5 := f0 [76, 79, 68, 83, 87] (by intro x hx; revert x; decide)
  rw [← t5, ByteArray.toList_mk [76, 79, 68, 83, 87]] at u5
  have u6 := f0 [67, 77, 80, 83, 66] (by intro x hx; revert x; decide)
  rw [← t6, ByteArray.toList_mk [67, 77, 80, 83, 66]] at u6
  have u7 := f0 [67, 77, 80, 83, 87] (by intro x hx; revert x; decide)
  rw [← t7, ByteArray.toList_mk [67, 77, 80, 83, 87]] at u7
  have u8 := f0 [83, 67, 65, 83, 66] (by intro x hx; revert x; decide)
  rw [← t8, ByteArray.toList_mk [83, 67, 65, 83, 66]] at u8
  have u9 := f0 [83, 67, 65, 83, 87] (by intro x hx; revert x; decide)
  rw [← t9, ByteArray.toList_mk [83, 67, 65, 83, 87]] at u9
  clear f0
  clear t0 t1 t2 t3 t4 t5 t6 t7 t8 t9
  obtain ⟨b0, v0⟩ : ∃ b, decide (s = [77, 79, 86, 83, 66]) = b := ⟨_, rfl⟩
  rw [v0] at u0
  have V0 := Lib.hid v0
  clear v0
  obtain ⟨b1, v1⟩ : ∃ b, decide (s = [77, 79, 86, 83, 87]) = b := ⟨_, rfl⟩
  rw [v1] at u1
  have V1 := Lib.hid v1
  clear v1
  obtain ⟨b2, v2⟩ : ∃ b, decide (s = [83, 84, 79, 83, 66]) = b := ⟨_, rfl⟩
  rw [v2] at u2
  have V2 := Lib.hid v2
  clear v2
  obtain ⟨b3, v3⟩ : ∃ b, decide (s = [83, 84, 79, 83, 87]) = b := ⟨_, rfl⟩
  rw [v3] at u3
  have V3 := Lib.hid v3
  clear v3
  obtain ⟨b4, v4⟩ : ∃ b, decide (s = [76, 79, 68, 83, 66]) = b := ⟨_, rfl⟩
  rw [v4] at u4
  have V4 := Lib.hid v4
  clear v4
  obtain ⟨b5, v5⟩ : ∃ b, decide (s = [76, 79, 68, 83, 87]) = b := ⟨_, rfl⟩
  rw [v5] at u5
  have V5 := Lib.hid v5
  clear v5
  obtain ⟨b6, v6⟩ : ∃ b, decide (s = [67, 77, 80, 83, 66]) = b := ⟨_, rfl⟩
  rw [v6] at u6
  have V6 := Lib.hid v6
  clear v6
  obtain ⟨b7, v7⟩ : ∃ b, decide (s = [67, 77, 80, 83, 87]) = b := ⟨_, rfl⟩
  rw [v7] at u7
  have V7 := Lib.hid v7
  clear v7
  obtain ⟨b8, v8⟩ : ∃ b, decide (s = [83, 67, 65, 83, 66]) = b := ⟨_, rfl⟩
  rw [v8] at u8
  have V8 := Lib.hid v8
  clear v8
  obtain ⟨b9, v9⟩ : ∃ b, decide (s = [83, 67, 65, 83, 87]) = b := ⟨_, rfl⟩
  rw [v9] at u9
  have V9 := Lib.hid v9
  clear v9
  cases b0
  case true =>
    have HQ := Lib.hid (of_decide_eq_true V0.out)
    go_wp2_with fail
    all_goals
      go_ret
      rw [HE.out, HQ.out]
      exact ⟨rfl, rfl⟩
  cases b1
  case true =>
    have HQ := Lib.hid (of_decide_eq_true V1.out)
    go_wp2_with fail
    all_goals
      go_ret
      rw [HE.out, HQ.out]
      exact ⟨rfl, rfl⟩
  cases b2
  case true =>
    have HQ := Lib.hid (of_decide_eq_true V2.out)
    go_wp2_with fail
    all_goals
      go_ret
      rw [HE.out, HQ.out]
      exact ⟨rfl, rfl⟩
  cases b3
  case true =>
    have HQ := Lib.hid (of_decide_eq_true V3.out)
    go_wp2_with fail
    all_goals
      go_ret
      rw [HE.out, HQ.out]
      exact ⟨rfl, rfl⟩
  cases b4
  case true =>
    have HQ := Lib.hid (of_decide_eq_true V4.out)
    go_wp2_with fail
    all_goals
      go_ret
      rw [HE.out, HQ.out]
      exact ⟨rfl, rfl⟩
  cases b5
  case true =>
    have HQ := Lib.hid (of_decide_eq_true V5.out)
    go_wp2_with fail
    all_goals
      go_ret
      rw [HE.out, HQ.out]
      exact ⟨rfl, rfl⟩
  cases b6
  case true =>
    have HQ := Lib.hid (of_decide_eq_true V6.out)
    go_wp2_with fail
    all_goals
      go_ret
      rw [HE.out, HQ.out]
      exact ⟨rfl, rfl⟩
  cases b7
  case true =>
    have HQ := Lib.hid (of_decide_eq_true V7.out)
    go_wp2_with fail
    all_goals
      go_ret
      rw [HE.out, HQ.out]
      exact ⟨rfl, rfl⟩
  cases b8
  case true =>
    have HQ := Lib.hid (of_decide_eq_true V8.out)
    go_wp2_with fail
    all_goals
      go_ret
      rw [HE.out, HQ.out]
      exact ⟨rfl, rfl⟩
  cases b9
  case true =>
    have HQ := Lib.hid (of_decide_eq_true V9.out)
    go_wp2_with fail
    all_goals
      go_ret
      rw [HE.out, HQ.out]
      exact ⟨rfl, rfl⟩
  go_wp2_with fail
  all_goals
    go_ret
    rw [HE.out, if_neg (by simp [of_decide_eq_false V0.out, of_decide_eq_false V1.out, of_decide_eq_false V2.out, of_decide_eq_false V3.out, of_decide_eq_false V4.out, of_decide_eq_false V5.out]), if_neg (by simp [of_decide_eq_false V6.out, of_decide_eq_false V7.out, of_decide_eq_false V8.out, of_decide_eq_false V9.out])]
    exact ⟨rfl, rfl⟩
end Go.Proofs.YtcglkefaopgjeaaGreatDoor

/- The reference's rows of instructions: walks. -/
namespace Go.Proofs.YtcglkefaopgjeaaGreatDoor
set_option linter.unusedSimpArgs false
set_option linter.unusedVariables false
open Go.RowKit

theorem rowOfL_none (s : List Nat) (h : s = [45] ∨ s = []) : rowOfL s = none := by unfold rowOfL; rw [if_pos h]
theorem B_45 : ({ data := #[45] } : ByteArray) = B [45] := by kernel_rfl
set_option maxRecDepth 100000 in
set_option maxHeartbeats 3200000 in
theorem row_any4 (op reg : Nat) (h1 : op < 256) (h2 : reg < 8) (w : World) : Calls Tryz.prog 94 #[.int .u8 op, .int .i64 reg] w fun e w' => e = .returned (rowV (isaOf op reg)) ∧ Below w.heap.size w w' := by
  obtain ⟨R, hR⟩ : ∃ R, isaOf (op : Int) reg = R := ⟨_, rfl⟩
  rw [hR]
  have HR := Lib.hid (show rowOfL (entryL op reg) = R from (rowL_isa op reg h1 h2).trans hR)
  clear hR
  have hr0 := Row.new w #[.int .i64 0, .int .i64 0, .int .i64 0, .bool false] 47
  have HR0 := Lib.hid hr0
  have HB0 := Lib.hid ((Below.refl w.heap.size w).alloc (Nat.le_refl _) (.cells #[.int .i64 0, .int .i64 0, .int .i64 0, .bool false] 47))
  clear hr0
  go_enter Tryz.func94, Tryz.ntmps94
  go_wp2_with fail
  refine (entry_any4 op reg h1 h2 _).mono ?_
  rintro e w1 ⟨rfl, rfl⟩; dsimp only
  have hok := (entryL_ok op reg).1
  have hle := (entryL_ok op reg).2
  generalize entryL op reg = s at hok hle HR ⊢
  have u0 := B_beq s [45] hok (by intro x hx; revert x; decide)
  rw [← B_45, ByteArray.toList_mk [45]] at u0
  have u1 := B_beq s [] hok (by intro x hx; cases hx)
  rw [B_nil, ByteArray.toList_mk []] at u1
  obtain ⟨b0, v0⟩ : ∃ b, decide (s = [45]) = b := ⟨_, rfl⟩
  obtain ⟨b1, v1⟩ : ∃ b, decide (s = []) = b := ⟨_, rfl⟩
  rw [v0] at u0
  rw [v1] at u1
  have V0 := Lib.hid v0
  have V1 := Lib.hid v1
  clear v0 v1
  cases b0 with
  | true =>
    go_wp2_with fail
    rw [← HR.out, rowOfL_none s (Or.inl (of_decide_eq_true V0.out)), rowV_none]
    refine bodyPost_ret (v := .tuple #[.agg #[.int .i64 0, .int .i64 0, .int .i64 0, .bool false], .bool false]) (by simp [results, Tryz.results94, go_sem]) rfl ⟨rfl, ?_⟩
    (repeat (first | exact Below.refl _ _ | assumption | refine Below.setCell ?_ (by simp) _ | refine Below.alloc ?_ (by simp <;> omega) _ | refine Below.drew ?_ | refine Below.drewN ?_ | refine Below.setRow ?_ (by simp <;> omega) _))
  | false =>
  cases b1 with
  | true =>
    go_wp2_with fail
    rw [← HR.out, rowOfL_none s (Or.inr (of_decide_eq_true V1.out)), rowV_none]
    refine bodyPost_ret (v := .tuple #[.agg #[.int .i64 0, .int .i64 0, .int .i64 0, .bool false], .bool false]) (by simp [results, Tryz.results94, go_sem]) rfl ⟨rfl, ?_⟩
    (repeat (first | exact Below.refl _ _ | assumption | refine Below.setCell ?_ (by simp) _ | refine Below.alloc ?_ (by simp <;> omega) _ | refine Below.drew ?_ | refine Below.drewN ?_ | refine Below.setRow ?_ (by simp <;> omega) _))
  | false =>
    have HE := Lib.hid (show R = some ⟨findL N04 (partL 58 s 0), findL K04 (partL 58 s 1), findL K04 (partL 58 s 2), secK (findL K04 (partL 58 s 1)) || secK (findL K04 (partL 58 s 2))⟩ by
      rw [← HR.out]; unfold rowOfL; rw [if_neg (by rintro (e | e); exact of_decide_eq_false V0.out e; exact of_decide_eq_false V1.out e)])
    have hle2 : s.length ≤ 100000 := by omega
    have p0 := partL_ok hok 58 0
    have p1 := partL_ok hok 58 1
    have p2 := partL_ok hok 58 2
    go_wp2_with fail
    refine (part_int s hok hle2 58 (by decide) 0 (by decide) _ _ (by rfl) (by rfl) _).mono ?_
    rintro e w1 ⟨rfl, rfl⟩; dsimp only
    go_wp2_with fail
    refine (findName_any4 _ p0 _).mono ?_
    rintro e w1 ⟨rfl, rfl⟩; dsimp only
    go_wp2_with fail
    refine (part_int s hok hle2 58 (by decide) 1 (by decide) _ _ (by rfl) (by rfl) _).mono ?_
    rintro e w1 ⟨rfl, rfl⟩; dsimp only
    go_wp2_with fail
    refine calls_text (t := B K04) (by kernel_rfl) ?_
    refine (find_any4 K04 K04_ok (by rw [K04_len]; omega) _ p1 _).mono ?_
    rintro e w1 ⟨rfl, rfl⟩; dsimp only
    go_wp2_with fail
    refine (part_int s hok hle2 58 (by decide) 2 (by decide) _ _ (by rfl) (by rfl) _).mono ?_
    rintro e w1 ⟨rfl, rfl⟩; dsimp only
    go_wp2_with fail
    refine calls_text (t := B K04) (by kernel_rfl) ?_
    refine (find_any4 K04 K04_ok (by rw [K04_len]; omega) _ p2 _).mono ?_
    rintro e w1 ⟨rfl, rfl⟩; dsimp only
    generalize findL N04 (partL 58 s 0) = x0 at HE ⊢
    generalize findL K04 (partL 58 s 1) = x1 at HE ⊢
    generalize findL K04 (partL 58 s 2) = x2 at HE ⊢
    clear hok hle hle2 p0 p1 p2
    cases hs1 : secK x1 with
    | true =>
      rw [hs1] at HE
      have HS := Lib.hid hs1
      clear hs1
      go_wp2_with fail
      refine (second_any4 x1 _).mono ?_
      rw [HS.out]
      rintro e w1 ⟨rfl, rfl⟩; dsimp only
      go_wp2_with fail
      rw [HE.out]
      refine bodyPost_ret (v := rowV (some ⟨x0, x1, x2, true⟩)) (by simp [results, Tryz.results94, go_sem, *]) rfl ⟨rfl, ?_⟩
      (repeat (first | exact Below.refl _ _ | assumption | refine Below.setCell ?_ (by simp) _ | refine Below.alloc ?_ (by simp <;> omega) _ | refine Below.drew ?_ | refine Below.drewN ?_ | refine Below.setRow ?_ (by simp <;> omega) _))
    | false =>
      rw [hs1] at HE
      have HS := Lib.hid hs1
      clear hs1
      go_wp2_with fail
      refine (second_any4 x1 _).mono ?_
      rw [HS.out]
      rintro e w1 ⟨rfl, rfl⟩; dsimp only
      go_wp2_with fail
      refine (second_any4 x2 _).mono ?_
      generalize secK x2 = y2 at HE ⊢
      rintro e w1 ⟨rfl, rfl⟩; dsimp only
      go_wp2_with fail
      rw [HE.out]
      refine bodyPost_ret (v := rowV (some ⟨x0, x1, x2, false || y2⟩)) (by simp [results, Tryz.results94, go_sem, *]) rfl ⟨rfl, ?_⟩
      (repeat (first | exact Below.refl _ _ | assumption | refine Below.setCell ?_ (by simp) _ | refine Below.alloc ?_ (by simp <;> omega) _ | refine Below.drew ?_ | refine Below.drewN ?_ | refine Below.setRow ?_ (by simp <;> omega) _))

set_option maxRecDepth 100000 in
set_option maxHeartbeats 1600000 in
theorem row_any5 (i : Inst) (w : World) (h0 : 0 ≤ i.op) (h1 : i.op ≤ 255) (r0 : 0 ≤ i.reg) (r1 : i.reg ≤ 7) : Calls Tryz.prog 43 #[i.val] w fun e w' => e = .returned (rowV (instRow i.op i.reg)) ∧ Below w.heap.size w w' := by
  obtain ⟨lock, rep, seg, op, mod, reg, rm, disp, imm, sel⟩ := i
  dsimp only at h0 h1 r0 r1
  have hb0 := ((Below.refl w.heap.size w).alloc (Nat.le_refl _) (.cells #[.bool lock, .int .i64 rep, .int .i64 seg, .int .u8 op, .int .i64 mod, .int .i64 reg, .int .i64 rm, .int .u16 disp, .int .u16 imm, .int .u16 sel] 30)).alloc (by simp) (.cells #[.int .i64 0, .int .i64 0, .int .i64 0, .bool false] 47)
  have hr0 := Row.new' (w := w.alloc (.cells #[.bool lock, .int .i64 rep, .int .i64 seg, .int .u8 op, .int .i64 mod, .int .i64 reg, .int .i64 rm, .int .u16 disp, .int .u16 imm, .int .u16 sel] 30)) (n := w.heap.size + 1) (cs := #[.int .i64 0, .int .i64 0, .int .i64 0, .bool false]) (t := 47) (by simp)
  have HB0 := Lib.hid hb0
  have HR0 := Lib.hid hr0
  clear hb0 hr0
  cases hp : isPre op with
  | true =>
    have HE := Lib.hid (show instRow op reg = none by rw [instRow, hp]; rfl)
    have HP := Lib.hid hp
    clear hp
    go_enter Tryz.func43, Tryz.ntmps43
    go_wp2_with (go_at_call 93; refine (prefix_any5 _ _).mono ?_; rw [HP.out]; rintro e w' ⟨rfl, rfl⟩)
    rw [HE.out, rowV_none]
    refine bodyPost_ret (v := .tuple #[.agg #[.int .i64 0, .int .i64 0, .int .i64 0, .bool false], .bool false]) (by simp [results, Tryz.results43, go_sem]) rfl ⟨rfl, ?_⟩
    (repeat (first | exact Below.refl _ _ | assumption | refine Below.setCell ?_ (by simp) _ | refine Below.alloc ?_ (by simp <;> omega) _ | refine Below.drew ?_ | refine Below.drewN ?_ | refine Below.setRow ?_ (by simp <;> omega) _))
  | false =>
    obtain ⟨rr, hrr⟩ : ∃ rr, isaOf op reg = rr := ⟨_, rfl⟩
    have HE := Lib.hid (show instRow op reg = rr by rw [instRow, hp, ← hrr]; rfl)
    have key : ∀ w, Calls Tryz.prog 94 #[.int .u8 op, .int .i64 reg] w fun e w' => e = .returned (rowV rr) ∧ Below w.heap.size w w' := by
      intro w
      have := row_any4 op.toNat reg.toNat (by omega) (by omega) w
      rwa [Int.toNat_of_nonneg h0, Int.toNat_of_nonneg r0, hrr] at this
    have HRR := Lib.hid key
    have HP := Lib.hid hp
    clear hp hrr key
    go_enter Tryz.func43, Tryz.ntmps43
    go_wp2_with (go_at_call 93; refine (prefix_any5 _ _).mono ?_; rw [HP.out]; rintro e w' ⟨rfl, rfl⟩)
    refine (HRR.out _).mono ?_
    rintro e w1 ⟨rfl, hb1⟩; dsimp only
    have hr := Below.row hb1 HR0.out HR0.out.lt
    have HB1 := Lib.hid (HB0.out.trans (hb1.mono HB0.out.size))
    have rc := hr.cell
    have rf := hr.frozen
    have rl := hr.lt
    clear hb1 hr
    go_wp2_with fail
    rw [HE.out]
    refine bodyPost_ret (v := rowV rr) (by simp [results, Tryz.results43, go_sem, *]) rfl ⟨rfl, ?_⟩
    exact (((HB1.out.setCell (p := ⟨w.heap.size + 1, _, none⟩) (Nat.le_succ _) _).setCell (p := ⟨w.heap.size + 1, _, none⟩) (Nat.le_succ _) _).setCell (p := ⟨w.heap.size + 1, _, none⟩) (Nat.le_succ _) _).setCell (p := ⟨w.heap.size + 1, _, none⟩) (Nat.le_succ _) _

set_option maxHeartbeats 400000 in
theorem imms_any5 (r : IRow) (w : World) : Calls Tryz.prog 50 #[r.val] w fun e w' => e = .returned (.int .i64 (immsOf r)) ∧ Below w.heap.size w w' := by
  have a0 := immOf_lo r.a
  have a1 := immOf_hi r.a
  have b0 := immOf_lo r.b
  have b1 := immOf_hi r.b
  have hs : IntKind.i64.wrap (immOf r.a + immOf r.b) = immOf r.a + immOf r.b := IntWalk.i64_in _ (by omega)
  go_enter Tryz.func50, Tryz.ntmps50
  go_wp2_with fail
  go_quiet ((go_at_call 46; exact quietS (bytes_any4 _ _)))
  go_wp2_with fail
  go_ret
  exact ⟨rfl, by (repeat (first | exact Below.refl _ _ | assumption | refine Below.setCell ?_ (by simp) _ | refine Below.alloc ?_ (by simp <;> omega) _ | refine Below.drew ?_ | refine Below.drewN ?_ | refine Below.setRow ?_ (by simp <;> omega) _))⟩
set_option maxHeartbeats 800000 in
/-- A word's bytes, in a row of their own. -/
theorem two_any5 (x : Int) (h0 : 0 ≤ x) (h1 : x ≤ 65535) (w : World) : Calls Tryz.prog 49 #[.int .u16 x] w fun e w' => e = .returned (.slice (some ⟨w.heap.size, 0, none⟩) 2 2) ∧ w' = w.alloc (.cells #[.int .u8 (x % 256), .int .u8 (x / 256)] 5) := by
  go_enter Tryz.func49, Tryz.ntmps49
  go_wp2_with fail
  go_ret
  have e1 : IntKind.u16.wrap (x.tdiv 256) % 256 = x / 256 := by
    rw [Int.tdiv_eq_ediv_of_nonneg h0, IntKind.wrap_u16]; omega
  rw [e1]
  exact ⟨rfl, rfl⟩
end Go.Proofs.YtcglkefaopgjeaaGreatDoor

/- The reference's near instruction, where no operand must lie in memory; one of one name is found: plain laws, no walk. -/
namespace Go.Proofs.YtcglkefaopgjeaaGreatDoor
set_option linter.unusedSimpArgs false
set_option linter.unusedVariables false
open Go.RowKit

theorem behindB_tail (i : Inst) (r : IRow) : behindB i r = (tailB i.imm i.sel r.name (tailOf r)).getD (i.imm == 0 && i.sel == 0) := by
  have hn : ∀ k, immOf k = 0 → tailB i.imm i.sel r.name k = none := by
    intro k hk
    unfold immOf at hk
    unfold tailB
    repeat' split at hk
    all_goals first | omega | (rw [if_neg (by omega), if_neg (by omega), if_neg (by omega), if_neg (by omega)])
  have hsm : ∀ k, immOf k ≠ 0 → ∃ b, tailB i.imm i.sel r.name k = some b := by
    intro k hk
    unfold immOf at hk
    unfold tailB
    repeat' split
    all_goals first | exact ⟨_, rfl⟩ | (exfalso; apply hk; rw [if_neg (by omega), if_neg (by omega), if_neg (by omega)])
  unfold behindB tailOf
  split
  · next e => rw [hn _ e]; rfl
  · next e => obtain ⟨b, hb⟩ := hsm _ e; rw [hb]; rfl
theorem signW_mod (b : Int) (h0 : 0 ≤ b) (h1 : b ≤ 255) : signW b % 256 = b := by unfold signW; split <;> omega
theorem fits_signW (b : Int) (h0 : 0 ≤ b) (h1 : b ≤ 255) : fitsB (signW b) = true := by unfold fitsB; rw [signW_mod b h0 h1]; simp
theorem reps3 (n : Int) : repsOf n = 0 ∨ repsOf n = 1 ∨ repsOf n = 2 := by unfold repsOf; split; simp; split <;> simp
/-- Whatever numbers, where no operand must lie in memory. -/
theorem near_may (x : Inst) (r : IRow) (hr : instRow x.op (x.reg % 8) = some r) (hr2 : r.mod = false → instRow x.op 0 = some r) (h1 : r.a ≠ 19) (h2 : r.b ≠ 19) (h3 : r.b ≠ 20) :
    mayB (nearR x r) = true ∧ instRow (nearR x r).op (nearR x r).reg = some r := by
  have hrow : instRow (nearR x r).op (nearR x r).reg = some r := by
    show instRow x.op (if r.mod then x.reg % 8 else 0) = some r
    cases hm : r.mod with
    | true => exact hr
    | false => exact hr2 hm
  refine ⟨?_, hrow⟩
  unfold mayB
  rw [hrow]
  dsimp only
  rw [behindB_tail]
  have hs : secondB (nearR x r) r = true := by
    unfold secondB nearR
    cases hm : r.mod with
    | false => simp
    | true =>
      simp only [Bool.true_eq_false, if_false, if_true]
      rw [if_neg (by simp [h1, h2, h3])]
      unfold nearDisp
      have hd : dispsOf (x.mod % 4) (x.rm % 8) = 0 ∨ dispsOf (x.mod % 4) (x.rm % 8) = 1 ∨ dispsOf (x.mod % 4) (x.rm % 8) = 2 := by unfold dispsOf; split; simp; split <;> simp
      rcases hd with e | e | e <;> rw [e] <;> simp
      exact fits_signW _ (by omega) (by omega)
  have hb : (tailB (nearR x r).imm (nearR x r).sel r.name (tailOf r)).getD ((nearR x r).imm == 0 && (nearR x r).sel == 0) = true := by
    show (tailB (nearImm (tailOf r) r.name x.imm) (nearSel (tailOf r) x.sel) r.name (tailOf r)).getD (nearImm (tailOf r) r.name x.imm == 0 && nearSel (tailOf r) x.sel == 0) = true
    generalize tailOf r = k
    unfold tailB nearImm nearSel
    by_cases k6 : k = 6
    · subst k6
      by_cases h7 : r.name = 70 ∨ r.name = 71
      · simp [h7]
      · have a1 : r.name ≠ 70 := fun e => h7 (Or.inl e)
        have a2 : r.name ≠ 71 := fun e => h7 (Or.inr e)
        simp [h7, a1, a2]
        omega
    · by_cases k8 : k = 8 ∨ k = 9
      · have : k ≠ 11 := by omega
        simp [k6, k8, this]
        exact fits_signW _ (by omega) (by omega)
      · by_cases k7 : k = 7 ∨ k = 10 ∨ k = 12 ∨ k = 13
        · have : k ≠ 11 := by omega
          simp [k6, k8, k7, this]
        · by_cases k11 : k = 11
          · subst k11; simp
          · simp [k6, k8, k7, k11]
  have hp : prefixesB (nearR x r) r = true := by
    unfold prefixesB nearR nearRep nearSeg
    dsimp only
    rcases reps3 r.name with e | e | e <;> rw [e] <;> simp <;> repeat' split
    all_goals (first | (simp; omega) | omega | simp)
  rw [hs, hb, hp]
  rfl
/-- An instruction of one name is looked for: one try. -/
def tryOp (x : Inst) (k : Nat) : Int := (x.op + k) % 256
def tryReg (x : Inst) (n : Nat) : Int := (x.reg % 8 + n) % 8
def tryI (x : Inst) (k n : Nat) : Inst := nearI { x with op := tryOp x k, reg := tryReg x n }
def tryOk (x : Inst) (lo hi : Int) (k n : Nat) : Bool :=
  decide (lo ≤ ((instRow (tryI x k n).op (tryI x k n).reg).getD ⟨0, 0, 0, false⟩).name) && decide (((instRow (tryI x k n).op (tryI x k n).reg).getD ⟨0, 0, 0, false⟩).name ≤ hi) && ((tryI x k n).op == tryOp x k)
/-- There is such a one. -/
theorem try_row (x : Inst) (lo hi : Int) (k n : Nat) (op reg : Int) (hop : tryOp x k = op) (hreg : reg = tryReg x n) (r : IRow) (hr : instRow op reg = some r) (hr2 : r.mod = false → instRow op 0 = some r) (h1 : r.a ≠ 19) (h2 : r.b ≠ 19) (h3 : r.b ≠ 20) (h4 : lo ≤ r.name) (h5 : r.name ≤ hi) : tryOk x lo hi k n = true := by
  have g0 : 0 ≤ tryReg x n ∧ tryReg x n ≤ 7 := by unfold tryReg; omega
  have hm : tryReg x n % 8 = tryReg x n := by omega
  have hx := near_may { x with op := tryOp x k, reg := tryReg x n } r (by dsimp only; rw [hm, hop, ← hreg]; exact hr) (by dsimp only; rw [hop]; exact hr2) h1 h2 h3
  have e : tryI x k n = nearR { x with op := tryOp x k, reg := tryReg x n } r := by
    unfold tryI nearI
    dsimp only
    rw [hm, hop, ← hreg, hr]
    dsimp only
    rw [hop, ← hreg] at hx
    rw [hx.1, if_pos rfl]
  unfold tryOk
  rw [e, hx.2, Option.getD_some]
  simp [h4, h5, nearR]
theorem tryOp_at (x : Inst) (h0 : 0 ≤ x.op) (h1 : x.op ≤ 255) (op : Nat) (h : op < 256) : tryOp x (((op : Int) - x.op) % 256).toNat = op := by unfold tryOp; omega
theorem tryReg_at (x : Inst) (g : Nat) (h : g < 8) : tryReg x (((g : Int) - x.reg % 8) % 8).toNat = g := by unfold tryReg; omega
end Go.Proofs.YtcglkefaopgjeaaGreatDoor

/- What the reference's May says of its near instruction: plain laws, no walk. -/
namespace Go.Proofs.YtcglkefaopgjeaaGreatDoor
set_option linter.unusedSimpArgs false
set_option linter.unusedVariables false
open Go.RowKit

def rowOk2 (op : Int) (r : IRow) : Bool := decide (1 ≤ r.name) && decide (r.name ≤ 95) && decide (0 ≤ r.a) && decide (r.a ≤ 24) && decide (0 ≤ r.b) && decide (r.b ≤ 24) && (r.a != 20) && (r.mod || decide (isaOf op 0 = some r))
theorem rows_ok2 : ∀ op : Fin 256, ∀ reg : Fin 8, (match isaOf (op.val : Nat) (reg.val : Nat) with | none => true | some r => rowOk2 (op.val : Nat) r) = true := by decide +kernel
structure RowFine (op : Int) (r : IRow) : Prop where
  n0 : 1 ≤ r.name
  n1 : r.name ≤ 95
  a0 : 0 ≤ r.a
  a1 : r.a ≤ 24
  b0 : 0 ≤ r.b
  b1 : r.b ≤ 24
  a20 : r.a ≠ 20
  alone : r.mod = false → isaOf op 0 = some r
theorem row_fine {op reg : Int} {r : IRow} (h0 : 0 ≤ op) (h1 : op ≤ 255) (g0 : 0 ≤ reg) (g1 : reg ≤ 7) (h : isaOf op reg = some r) : RowFine op r := by
  obtain ⟨a, rfl⟩ := Int.eq_ofNat_of_zero_le h0
  obtain ⟨b, rfl⟩ := Int.eq_ofNat_of_zero_le g0
  have := rows_ok2 ⟨a, by omega⟩ ⟨b, by omega⟩
  rw [show ((⟨a, by omega⟩ : Fin 256).val) = a from rfl, show ((⟨b, by omega⟩ : Fin 8).val) = b from rfl, h] at this
  simp only [rowOk2, Bool.and_eq_true, decide_eq_true_eq, bne_iff_ne, Bool.or_eq_true] at this
  obtain ⟨⟨⟨⟨⟨⟨⟨x1, x2⟩, x3⟩, x4⟩, x5⟩, x6⟩, x7⟩, x8⟩ := this
  exact ⟨x1, x2, x3, x4, x5, x6, x7, fun hm => by rcases x8 with e | e; rw [e] at hm; cases hm; exact e⟩
theorem instRow_some {op reg : Int} {r : IRow} (h : instRow op reg = some r) : isPre op = false ∧ isaOf op reg = some r := by
  unfold instRow at h
  split at h
  · cases h
  · next e => exact ⟨by simpa using e, h⟩
theorem instRow_alone {op reg : Int} {r : IRow} (h0 : 0 ≤ op) (h1 : op ≤ 255) (g0 : 0 ≤ reg) (g1 : reg ≤ 7) (h : instRow op reg = some r) (hm : r.mod = false) : instRow op 0 = some r := by
  have hp := instRow_some h
  rw [instRow, hp.1, if_neg (by decide)]
  exact (row_fine h0 h1 g0 g1 hp.2).alone hm
/-- An operand in memory is asked for, and there is none. -/
def noMem (mod : Int) (r : IRow) : Bool := r.mod && (mod == 3 && (r.a == 19 || r.a == 20 || r.b == 19 || r.b == 20))
/-- What May asks for beside that. -/
structure Nearly (i : Inst) (r : IRow) : Prop where
  wf : i.wf
  rep : i.rep = 0 ∨ (i.rep = 1 ∧ repsOf r.name = 2) ∨ (i.rep = 2 ∧ 1 ≤ repsOf r.name)
  seg : 0 ≤ i.seg ∧ i.seg ≤ 4
  none : r.mod = false → i.mod = 0 ∧ i.reg = 0 ∧ i.rm = 0 ∧ i.disp = 0
  d0 : r.mod = true → dispsOf i.mod i.rm = 0 → i.disp = 0
  d1 : r.mod = true → dispsOf i.mod i.rm = 1 → fitsB i.disp = true
  tail : (tailB i.imm i.sel r.name (tailOf r)).getD (i.imm == 0 && i.sel == 0) = true
theorem nearly_near (x : Inst) (h : x.kinds) (r : IRow) : Nearly (nearR x r) r := by
  refine ⟨(nearR_wf x h r).1, ?_, (nearR_wf x h r).2.2, ?_, ?_, ?_, ?_⟩
  · unfold nearR nearRep
    dsimp only
    rcases reps3 r.name with e | e | e <;> rw [e] <;> simp <;> repeat' split
    all_goals omega
  · intro hm; unfold nearR; simp [hm]
  · intro hm hd; unfold nearR at hd ⊢; simp only [hm, if_true] at hd ⊢; unfold nearDisp; rw [hd]; simp
  · intro hm hd; unfold nearR at hd ⊢; simp only [hm, if_true] at hd ⊢; unfold nearDisp; rw [hd]; simp; exact fits_signW _ (by omega) (by omega)
  · show (tailB (nearImm (tailOf r) r.name x.imm) (nearSel (tailOf r) x.sel) r.name (tailOf r)).getD (nearImm (tailOf r) r.name x.imm == 0 && nearSel (tailOf r) x.sel == 0) = true
    generalize tailOf r = k
    unfold tailB nearImm nearSel
    by_cases k6 : k = 6
    · subst k6
      by_cases h7 : r.name = 70 ∨ r.name = 71
      · simp [h7]
      · have a1 : r.name ≠ 70 := fun e => h7 (Or.inl e)
        have a2 : r.name ≠ 71 := fun e => h7 (Or.inr e)
        simp [h7, a1, a2]
        omega
    · by_cases k8 : k = 8 ∨ k = 9
      · have : k ≠ 11 := by omega
        simp [k6, k8, this]
        exact fits_signW _ (by omega) (by omega)
      · by_cases k7 : k = 7 ∨ k = 10 ∨ k = 12 ∨ k = 13
        · have : k ≠ 11 := by omega
          simp [k6, k8, k7, this]
        · by_cases k11 : k = 11
          · subst k11; simp
          · simp [k6, k8, k7, k11]
theorem mayB_nearly (i : Inst) (r : IRow) (h : Nearly i r) (hr : instRow i.op i.reg = some r) (ha : r.a ≠ 20) : mayB i = !noMem i.mod r := by
  unfold mayB
  rw [hr]
  dsimp only
  rw [behindB_tail, h.tail, Bool.and_true]
  have hp : prefixesB i r = true := by
    unfold prefixesB
    have := h.seg
    rcases h.rep with e | ⟨e, e2⟩ | ⟨e, e2⟩ <;> simp [*]
  rw [hp, Bool.and_true]
  unfold secondB noMem
  cases hm : r.mod with
  | false =>
    obtain ⟨q1, q2, q3, q4⟩ := h.none hm
    simp [q1, q2, q3, q4]
  | true =>
    have ha2 : (r.a == 20) = false := by simpa using ha
    rw [if_neg (by decide), ha2, Bool.or_false, Bool.true_and]
    cases hb : (i.mod == 3 && (r.a == 19 || r.b == 19 || r.b == 20)) with
    | true => rfl
    | false =>
      rw [if_neg (by decide)]
      have hd : dispsOf i.mod i.rm = 0 ∨ dispsOf i.mod i.rm = 1 ∨ dispsOf i.mod i.rm = 2 := by unfold dispsOf; split; simp; split <;> simp
      rcases hd with e | e | e
      · rw [e, if_pos rfl, h.d0 hm e]; rfl
      · rw [e, if_neg (by decide), if_pos rfl, h.d1 hm e]; rfl
      · rw [e, if_neg (by decide), if_neg (by decide)]; rfl
end Go.Proofs.YtcglkefaopgjeaaGreatDoor
