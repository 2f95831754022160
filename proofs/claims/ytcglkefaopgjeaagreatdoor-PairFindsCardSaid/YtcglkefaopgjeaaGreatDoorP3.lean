/- Registers, instructions and words that came in by value: opened to what the walks take, and read again behind. -/
import Derived.Test.YtcglkefaopgjeaaGreatDoorB0
import Derived.Test.YtcglkefaopgjeaaGreatDoorC3
import Derived.OpenShut
import Derived.ProofKit
import Derived.WideKeyArgs
import Derived.ChangeArms
namespace Go.Proofs.YtcglkefaopgjeaaGreatDoor
set_option linter.unusedSimpArgs false
set_option linter.unusedVariables false
open Go.ChangeShapes Go.WideShapes Go.RowKit

section
variable {H : Type} {enc : TypeId × Value → H} {w : World} {base : Nat} {spare : Nat → Bool} {held : Bool}
theorem trod_V {n : Nat} {a b : Value} {x : DataW H × List MemPlace} (h : DataW.trod enc Tryz.prog w base spare held n 24 [a, b] = some x) : ∃ X : V, a = .int .u16 X.v ∧ b = .bool X.t ∧ X.wf ∧ x.2 = [] := by
  obtain ⟨xs, m, _, hx, _, hlen, hf⟩ := DataW.trod_struct Tryz.underlying24 h
  match xs, hlen with
  | [y0, y1], _ =>
    have h0 := hf 0 _ rfl
    have h1 := hf 1 _ rfl
    simp only [List.getElem_toArray, List.getElem_cons_zero, List.getElem_cons_succ] at h0 h1
    have k0 : Tryz.prog.cellsOf 22 = 1 := by kernel_rfl
    have k1 : Tryz.prog.cellsOf 4 = 1 := by kernel_rfl
    simp only [k0, k1, List.drop_zero, List.take_succ_cons, List.take_zero, List.drop_succ_cons, List.getElem?_cons_zero, List.getElem?_cons_succ] at h0 h1
    obtain ⟨v, e0, d0, w0⟩ := DataW.trod_int Tryz.underlying22 h0
    obtain ⟨t, e1, d1⟩ := DataW.trod_bool Tryz.underlying4 h1
    simp only [List.cons.injEq, and_true] at e0 e1
    have bd := bounds_u16 w0
    exact ⟨⟨v, t⟩, e0, e1, bd, by rw [hx, d0, d1]; rfl⟩

set_option maxRecDepth 100000 in
theorem open_regs_list (c0 c1 c2 c3 c4 c5 c6 c7 c8 c9 c10 c11 c12 c13 c14 c15 c16 c17 c18 c19 c20 c21 c22 c23 c24 c25 : Value) {fuel : Nat} {d : DataW H} {p : List MemPlace} (hf : DataW.trod enc Tryz.prog w base spare held fuel 28 [c0, c1, c2, c3, c4, c5, c6, c7, c8, c9, c10, c11, c12, c13, c14, c15, c16, c17, c18, c19, c20, c21, c22, c23, c24, c25] = some (d, p)) : ∃ R : Regs, Value.agg #[c0, c1, c2, c3, c4, c5, c6, c7, c8, c9, c10, c11, c12, c13, c14, c15, c16, c17, c18, c19, c20, c21, c22, c23, c24, c25] = R.val ∧ R.wf ∧ p = [] := by
  obtain ⟨xs, m, _, hx, _, hlen, hg⟩ := DataW.trod_struct Tryz.underlying28 hf
  have k8 : Tryz.prog.cellsOf 25 = 16 := by kernel_rfl
  have k4 : Tryz.prog.cellsOf 26 = 8 := by kernel_rfl
  have k2 : Tryz.prog.cellsOf 24 = 2 := by kernel_rfl
  have k0 : Tryz.prog.cellsOf 22 = 1 := by kernel_rfl
  match xs, hlen with
  | [y0, y1, y2, y3], _ =>
    have h0 := hg 0 _ rfl
    have h1 := hg 1 _ rfl
    have h2 := hg 2 _ rfl
    have h3 := hg 3 _ rfl
    simp only [List.getElem_toArray, List.getElem_cons_zero, List.getElem_cons_succ] at h0 h1 h2 h3
    simp only [Value.cells, k0, k8, k4, List.drop_zero, List.take_succ_cons, List.take_zero, List.drop_succ_cons, List.getElem?_cons_zero, List.getElem?_cons_succ] at h0 h1 h2 h3
    obtain ⟨x2, e2, d2, w2⟩ := DataW.trod_int Tryz.underlying22 h2
    obtain ⟨x3, e3, d3, w3⟩ := DataW.trod_int Tryz.underlying22 h3
    obtain ⟨ys, m0, _, hy, _, hyl, hya⟩ := DataW.trod_array Tryz.underlying25 h0
    obtain ⟨zs, m1, _, hz, _, hzl, hza⟩ := DataW.trod_array Tryz.underlying26 h1
    match ys, hyl, zs, hzl with
    | [a0, a1, a2, a3, a4, a5, a6, a7], _, [b0, b1, b2, b3], _ =>
      simp only [k2] at hya hza
      have g0 := hya 0 (by decide)
      have g1 := hya 1 (by decide)
      have g2 := hya 2 (by decide)
      have g3 := hya 3 (by decide)
      have g4 := hya 4 (by decide)
      have g5 := hya 5 (by decide)
      have g6 := hya 6 (by decide)
      have g7 := hya 7 (by decide)
      have s0 := hza 0 (by decide)
      have s1 := hza 1 (by decide)
      have s2 := hza 2 (by decide)
      have s3 := hza 3 (by decide)
      simp only [Nat.zero_mul, Nat.one_mul, Nat.reduceMul, List.drop_zero, List.take_succ_cons, List.take_zero, List.drop_succ_cons, List.getElem?_cons_zero, List.getElem?_cons_succ] at g0 g1 g2 g3 g4 g5 g6 g7 s0 s1 s2 s3
      obtain ⟨G0, rfl, rfl, wg0, pg0⟩ := trod_V g0
      obtain ⟨G1, rfl, rfl, wg1, pg1⟩ := trod_V g1
      obtain ⟨G2, rfl, rfl, wg2, pg2⟩ := trod_V g2
      obtain ⟨G3, rfl, rfl, wg3, pg3⟩ := trod_V g3
      obtain ⟨G4, rfl, rfl, wg4, pg4⟩ := trod_V g4
      obtain ⟨G5, rfl, rfl, wg5, pg5⟩ := trod_V g5
      obtain ⟨G6, rfl, rfl, wg6, pg6⟩ := trod_V g6
      obtain ⟨G7, rfl, rfl, wg7, pg7⟩ := trod_V g7
      obtain ⟨S0, rfl, rfl, ws0, ps0⟩ := trod_V s0
      obtain ⟨S1, rfl, rfl, ws1, ps1⟩ := trod_V s1
      obtain ⟨S2, rfl, rfl, ws2, ps2⟩ := trod_V s2
      obtain ⟨S3, rfl, rfl, ws3, ps3⟩ := trod_V s3
      simp only [List.cons.injEq, and_true] at e2 e3
      subst e2 e3
      refine ⟨⟨G0, G1, G2, G3, G4, G5, G6, G7, S0, S1, S2, S3, x2, x3⟩, rfl, ⟨wg0, wg1, wg2, wg3, wg4, wg5, wg6, wg7, ws0, ws1, ws2, ws3, bounds_u16 w2, bounds_u16 w3⟩, ?_⟩
      simp only [Prod.mk.injEq] at hx
      rw [hx.2]
      subst d2 d3 hy hz
      simp [pg0, pg1, pg2, pg3, pg4, pg5, pg6, pg7, ps0, ps1, ps2, ps3]

set_option maxRecDepth 100000 in
theorem open_regs {r : Reach} {b0 : Nat} {v : Value} {d : DataW H} {p : List MemPlace} (hv : Value.okWide Tryz.prog w r b0 28 v) (h : DataW.Trod enc Tryz.prog w base spare held 28 v d p) : ∃ R : Regs, v = R.val ∧ R.wf ∧ p = [] := by
  obtain ⟨cs, rfl, hsz⟩ := okWide_struct Tryz.underlying28 hv
  have k : Tryz.prog.cellsOf 28 = 26 := by kernel_rfl
  rw [k] at hsz
  obtain ⟨l⟩ := cs
  obtain ⟨fuel, hf⟩ := h
  match l, hsz with
  | [c0, c1, c2, c3, c4, c5, c6, c7, c8, c9, c10, c11, c12, c13, c14, c15, c16, c17, c18, c19, c20, c21, c22, c23, c24, c25], _ => exact open_regs_list _ _ _ _ _ _ _ _ _ _ _ _ _ _ _ _ _ _ _ _ _ _ _ _ _ _ hf

/-- What was read of registers is read of them in every world. -/
theorem regs_stays {W W' : World} {d : DataW H} {r : Regs} (h : DataW.Trod enc Tryz.prog W base (fun _ => true) true 28 r.val d []) {sp : Nat → Bool} : DataW.Trod enc Tryz.prog W' base sp true 28 r.val d [] :=
  Go.WideElems.Trod_stays (by kernel_rfl) (by kernel_rfl) (by decide +kernel) h (fun p hp => by cases hp) (fun p hp => by cases hp)
theorem okWide_arr {P : Program} {r : Reach} {b0 : Nat} {n : Nat} {t e : TypeId} {v : Value} (ht : P.underlying t = some (.array n e)) (h : Value.okWide P w r b0 t v) : ∃ cs, v = .agg cs ∧ cs.size = P.cellsOf t := by
  simp only [Value.okWide, ht] at h
  obtain ⟨cs, h1, h2, _⟩ := h
  exact ⟨cs, h1, h2⟩
set_option maxRecDepth 100000 in
theorem open_a2 {r : Reach} {b0 : Nat} {v : Value} {d : DataW H} {p : List MemPlace} (hv : Value.okWide Tryz.prog w r b0 68 v) (h : DataW.Trod enc Tryz.prog w base spare held 68 v d p) :
    ∃ a b : Int, v = .agg #[.int .i64 a, .int .i64 b] ∧ ((-9223372036854775808 ≤ a ∧ a ≤ 9223372036854775807) ∧ (-9223372036854775808 ≤ b ∧ b ≤ 9223372036854775807)) ∧ p = [] := by
  obtain ⟨cs, rfl, hsz⟩ := okWide_arr Tryz.underlying68 hv
  have k : Tryz.prog.cellsOf 68 = 2 := by kernel_rfl
  have k0 : Tryz.prog.cellsOf 3 = 1 := by kernel_rfl
  rw [k] at hsz
  obtain ⟨l⟩ := cs
  obtain ⟨fuel, hf⟩ := h
  match l, hsz with
  | [c0, c1], _ =>
    obtain ⟨xs, m, _, hx, _, hlen, hg⟩ := DataW.trod_array Tryz.underlying68 hf
    match xs, hlen with
    | [y0, y1], _ =>
      have h0 := hg 0 (by decide)
      have h1 := hg 1 (by decide)
      simp only [Value.cells, k0, Nat.zero_mul, Nat.one_mul, Nat.reduceMul, List.drop_zero, List.take_succ_cons, List.take_zero, List.drop_succ_cons, List.getElem?_cons_zero, List.getElem?_cons_succ] at h0 h1
      obtain ⟨x0, e0, d0, w0⟩ := DataW.trod_int Tryz.underlying3 h0
      obtain ⟨x1, e1, d1, w1⟩ := DataW.trod_int Tryz.underlying3 h1
      simp only [List.cons.injEq, and_true] at e0 e1
      subst e0 e1
      simp only [Prod.mk.injEq] at hx
      refine ⟨x0, x1, rfl, ⟨bounds_i64 w0, bounds_i64 w1⟩, ?_⟩
      rw [hx.2, d0, d1]
      rfl
theorem a2_stays {W W' : World} {d : DataW H} {v : Value} (h : DataW.Trod enc Tryz.prog W base (fun _ => true) true 68 v d []) {sp : Nat → Bool} : DataW.Trod enc Tryz.prog W' base sp true 68 v d [] :=
  Go.WideElems.Trod_stays (by kernel_rfl) (by kernel_rfl) (by decide +kernel) h (fun p hp => by cases hp) (fun p hp => by cases hp)
def zeroRegs : Regs := ⟨zeroV, zeroV, zeroV, zeroV, zeroV, zeroV, zeroV, zeroV, zeroV, zeroV, zeroV, zeroV, 0, 0⟩
end

theorem i64_mask (n : Int) (k : Nat) (m : Int) (hk : m = ((2 ^ k - 1 : Nat) : Int)) (h63 : k < 63) : bits .and .i64 n m = n % ((2 ^ k : Nat) : Int) := by
  have hp : 2 ^ k ≤ 2 ^ 62 := Nat.pow_le_pow_right (by decide) (by omega)
  have h1 : 1 ≤ 2 ^ k := Nat.one_le_two_pow
  have hm : (BitVec.ofInt 64 m).toNat = 2 ^ k - 1 := by
    rw [BitVec.toNat_ofInt, hk]
    omega
  have key : (BitVec.ofInt 64 n &&& BitVec.ofInt 64 m).toNat = (n % ((2 ^ 64 : Nat) : Int)).toNat % 2 ^ k := by
    rw [BitVec.toNat_and, BitVec.toNat_ofInt, hm, Nat.and_two_pow_sub_one_eq_mod]
  show IntKind.i64.wrap ((BitVec.ofInt 64 n &&& BitVec.ofInt 64 m).toNat : Nat) = n % _
  have hd : ((2 ^ k : Nat) : Int) ∣ ((2 ^ 64 : Nat) : Int) := Int.natCast_dvd_natCast.2 (Nat.pow_dvd_pow 2 (by omega))
  have hr : 0 ≤ n % ((2 ^ 64 : Nat) : Int) := Int.emod_nonneg _ (by decide)
  have e1 : (((n % ((2 ^ 64 : Nat) : Int)).toNat % 2 ^ k : Nat) : Int) = n % ((2 ^ k : Nat) : Int) := by
    rw [Int.natCast_emod, Int.toNat_of_nonneg hr]
    exact Int.emod_emod_of_dvd n hd
  rw [key, e1, IntKind.wrap_i64]
  have h0 : 0 ≤ n % ((2 ^ k : Nat) : Int) := Int.emod_nonneg _ (by omega)
  have h2 : n % ((2 ^ k : Nat) : Int) < ((2 ^ k : Nat) : Int) := Int.emod_lt_of_pos _ (by omega)
  omega
end Go.Proofs.YtcglkefaopgjeaaGreatDoor
