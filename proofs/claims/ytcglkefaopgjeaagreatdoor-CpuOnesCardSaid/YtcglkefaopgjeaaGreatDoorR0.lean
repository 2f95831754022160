/- Sums, differences, bits and flags in plain numbers: the reference's way, bit by bit, comes to the same as sums and exclusive ors: plain laws, no walk. -/
import Derived.Test.YtcglkefaopgjeaaGreatDoorJ8
namespace Go.Proofs.YtcglkefaopgjeaaGreatDoor
set_option linter.unusedSimpArgs false
set_option linter.unusedVariables false
open Go.RowKit

def topW (wide : Bool) : Int := if wide then 32768 else 128
def sizeW (wide : Bool) : Nat := if wide then 16 else 8
def cutW (n : Int) (wide : Bool) : Int := if wide then n else n % 256
def bitI (n : Int) (i : Nat) : Int := n / 2 ^ i % 2
def onesOf (n : Int) : Nat → Int
  | 0 => 0
  | k + 1 => n % 2 + onesOf (n / 2) k
def evenB (b : Int) : Bool := onesOf b 8 % 2 == 0
def ifI (b : Bool) (n : Int) : Int := if b then n else 0
def sgnF (v : Int) (wide : Bool) : Int := ifI (v / topW wide % 2 == 1) 128 + ifI (cutW v wide == 0) 64 + ifI (evenB (v % 256)) 4
def addV (a b c : Int) (wide : Bool) : Int := (a + b + c) % (2 * topW wide)
def addC (a b c : Int) (wide : Bool) : Bool := decide (2 * topW wide ≤ a + b + c)
def addA (a b c : Int) : Bool := decide (16 ≤ a % 16 + b % 16 + c)
def addO (a b v : Int) (wide : Bool) : Bool := (a / topW wide % 2 != v / topW wide % 2) && (b / topW wide % 2 != v / topW wide % 2)
def addF (a b c : Int) (wide : Bool) : Int := sgnF (addV a b c wide) wide + ifI (addC a b c wide) 1 + ifI (addA a b c) 16 + ifI (addO a b (addV a b c wide) wide) 2048
def subV (a b c : Int) (wide : Bool) : Int := (a - b - c) % (2 * topW wide)
def subC (a b c : Int) : Bool := decide (a < b + c)
def subA (a b c : Int) : Bool := decide (a % 16 < b % 16 + c)
def subO (a b v : Int) (wide : Bool) : Bool := (a / topW wide % 2 != b / topW wide % 2) && (a / topW wide % 2 != v / topW wide % 2)
def subF (a b c : Int) (wide : Bool) : Int := sgnF (subV a b c wide) wide + ifI (subC a b c) 1 + ifI (subA a b c) 16 + ifI (subO a b (subV a b c wide) wide) 2048

/-- Carries, bit by bit. -/
def carry (a b c : Int) (i : Nat) : Int := (a % 2 ^ i + b % 2 ^ i + c) / 2 ^ i
def borrow (a b c : Int) (i : Nat) : Int := if a % 2 ^ i < b % 2 ^ i + c then 1 else 0
theorem below16 {i : Nat} (h : i < 16) : i = 0 ∨ i = 1 ∨ i = 2 ∨ i = 3 ∨ i = 4 ∨ i = 5 ∨ i = 6 ∨ i = 7 ∨ i = 8 ∨ i = 9 ∨ i = 10 ∨ i = 11 ∨ i = 12 ∨ i = 13 ∨ i = 14 ∨ i = 15 := by omega
theorem carry_zero (a b c : Int) : carry a b c 0 = c := by unfold carry; simp [Int.emod_one]
theorem carry_bool (a b c : Int) (hc : 0 ≤ c ∧ c ≤ 1) (i : Nat) (hi : i < 16) : 0 ≤ carry a b c i ∧ carry a b c i ≤ 1 := by
  rcases below16 hi with rfl | rfl | rfl | rfl | rfl | rfl | rfl | rfl | rfl | rfl | rfl | rfl | rfl | rfl | rfl | rfl <;> simp only [carry, Int.reducePow] <;> omega
theorem carry_step (a b c : Int) (hc : 0 ≤ c ∧ c ≤ 1) (i : Nat) (hi : i < 16) : (bitI a i + bitI b i + carry a b c i) / 2 = carry a b c (i + 1) ∧ (bitI a i + bitI b i + carry a b c i) % 2 = bitI (a + b + c) i := by
  rcases below16 hi with rfl | rfl | rfl | rfl | rfl | rfl | rfl | rfl | rfl | rfl | rfl | rfl | rfl | rfl | rfl | rfl <;> simp only [carry, bitI, Nat.reduceAdd, Int.reducePow] <;> omega
theorem borrow_zero (a b c : Int) (hc : 0 ≤ c ∧ c ≤ 1) : borrow a b c 0 = c := by unfold borrow; simp; omega
theorem borrow_bool (a b c : Int) (i : Nat) : 0 ≤ borrow a b c i ∧ borrow a b c i ≤ 1 := by unfold borrow; split <;> omega
theorem borrow_step (a b c : Int) (hc : 0 ≤ c ∧ c ≤ 1) (i : Nat) (hi : i < 16) : (if bitI a i < bitI b i + borrow a b c i then 1 else 0) = borrow a b c (i + 1) ∧ (bitI a i - bitI b i - borrow a b c i) % 2 = bitI (a - b - c) i := by
  rcases below16 hi with rfl | rfl | rfl | rfl | rfl | rfl | rfl | rfl | rfl | rfl | rfl | rfl | rfl | rfl | rfl | rfl <;> simp only [borrow, bitI, Nat.reduceAdd, Int.reducePow] <;> refine ⟨?_, ?_⟩ <;> repeat' split
  all_goals omega
/-- The number of bits. -/
def ofBits (f : Nat → Int) : Nat → Int
  | 0 => 0
  | k + 1 => ofBits f k + f k * 2 ^ k
theorem ofBits_bit (n : Int) (k : Nat) : ofBits (bitI n) k = n % 2 ^ k := by
  induction k with
  | zero => simp [ofBits, Int.emod_one]
  | succ k ih =>
    rw [ofBits, ih, bitI, Int.pow_succ, Int.mul_comm (n / 2 ^ k % 2)]
    have hp : (0 : Int) < 2 ^ k := Int.pow_pos (by decide)
    generalize (2 : Int) ^ k = q at hp ⊢
    have e1 := Int.emod_add_mul_ediv n q
    have e2 := Int.emod_add_mul_ediv (n / q) 2
    have h1 := Int.emod_nonneg n (show q ≠ 0 by omega)
    have h2 := Int.emod_lt_of_pos n hp
    have h3 : 0 ≤ n / q % 2 ∧ n / q % 2 ≤ 1 := by omega
    have e3 : n = (n % q + q * (n / q % 2)) + (q * 2) * (n / q / 2) := by
      rw [Int.mul_assoc, Int.add_assoc, ← Int.mul_add, e2, e1]
    have h4 : 0 ≤ q * (n / q % 2) ∧ q * (n / q % 2) ≤ q := by
      rcases (show n / q % 2 = 0 ∨ n / q % 2 = 1 by omega) with e | e <;> rw [e] <;> simp <;> omega
    have e4 : n % (q * 2) = (n % q + q * (n / q % 2) + q * 2 * (n / q / 2)) % (q * 2) := congrArg (fun z => z % (q * 2)) e3
    have e5 : (n % q + q * (n / q % 2)) % (q * 2) = n % q + q * (n / q % 2) := Int.emod_eq_of_lt (by omega) (by omega)
    rw [e4, Int.add_mul_emod_self_left, e5]
theorem ofBits_congr (f g : Nat → Int) (k : Nat) (h : ∀ j, j < k → f j = g j) : ofBits f k = ofBits g k := by
  induction k with
  | zero => rfl
  | succ k ih => rw [ofBits, ofBits, ih (fun j hj => h j (by omega)), h k (by omega)]
theorem pow_size (wide : Bool) : (2 : Int) ^ sizeW wide = 2 * topW wide := by cases wide <;> decide

theorem add_c (a b c : Int) (wide : Bool) (a0 : 0 ≤ a) (a1 : a < 2 * topW wide) (b0 : 0 ≤ b) (b1 : b < 2 * topW wide) (hc : 0 ≤ c ∧ c ≤ 1) : (carry a b c (sizeW wide) == 1) = addC a b c wide := by
  cases wide <;> simp only [carry, sizeW, addC, topW, if_true, Bool.false_eq_true, if_false, Int.reducePow, Int.reduceMul] at * <;> rw [Bool.eq_iff_iff] <;> simp <;> omega
theorem add_a (a b c : Int) (a0 : 0 ≤ a) (b0 : 0 ≤ b) (hc : 0 ≤ c ∧ c ≤ 1) : (carry a b c 4 == 1) = addA a b c := by
  simp only [carry, addA, Int.reducePow]; rw [Bool.eq_iff_iff]; simp; omega
theorem add_o (a b c : Int) (wide : Bool) (a0 : 0 ≤ a) (a1 : a < 2 * topW wide) (b0 : 0 ≤ b) (b1 : b < 2 * topW wide) (hc : 0 ≤ c ∧ c ≤ 1) : (carry a b c (sizeW wide) != carry a b c (sizeW wide - 1)) = addO a b (addV a b c wide) wide := by
  cases wide <;> simp only [carry, sizeW, addO, addV, topW, if_true, Bool.false_eq_true, if_false, Nat.reduceSub, Int.reducePow, Int.reduceMul] at * <;> rw [Bool.eq_iff_iff] <;> simp only [bne_iff_ne, ne_eq, Bool.and_eq_true]
  · rcases (show a / 128 = 0 ∨ a / 128 = 1 by omega) with e1 | e1 <;> rcases (show b / 128 = 0 ∨ b / 128 = 1 by omega) with e2 | e2 <;> rcases (show (a % 128 + b % 128 + c) / 128 = 0 ∨ (a % 128 + b % 128 + c) / 128 = 1 by omega) with e3 | e3 <;> rw [e1, e2, e3] <;> omega
  · rcases (show a / 32768 = 0 ∨ a / 32768 = 1 by omega) with e1 | e1 <;> rcases (show b / 32768 = 0 ∨ b / 32768 = 1 by omega) with e2 | e2 <;> rcases (show (a % 32768 + b % 32768 + c) / 32768 = 0 ∨ (a % 32768 + b % 32768 + c) / 32768 = 1 by omega) with e3 | e3 <;> rw [e1, e2, e3] <;> omega
theorem sub_c (a b c : Int) (wide : Bool) (a0 : 0 ≤ a) (a1 : a < 2 * topW wide) (b0 : 0 ≤ b) (b1 : b < 2 * topW wide) (hc : 0 ≤ c ∧ c ≤ 1) : (borrow a b c (sizeW wide) == 1) = subC a b c := by
  cases wide <;> simp only [borrow, sizeW, subC, topW, if_true, Bool.false_eq_true, if_false, Int.reducePow, Int.reduceMul] at * <;> rw [Bool.eq_iff_iff] <;> simp <;> omega
theorem sub_a (a b c : Int) : (borrow a b c 4 == 1) = subA a b c := by
  simp only [borrow, subA, Int.reducePow]; rw [Bool.eq_iff_iff]; simp
theorem sub_o (a b c : Int) (wide : Bool) (a0 : 0 ≤ a) (a1 : a < 2 * topW wide) (b0 : 0 ≤ b) (b1 : b < 2 * topW wide) (hc : 0 ≤ c ∧ c ≤ 1) : (borrow a b c (sizeW wide) != borrow a b c (sizeW wide - 1)) = subO a b (subV a b c wide) wide := by
  cases wide <;> simp only [borrow, sizeW, subO, subV, topW, if_true, Bool.false_eq_true, if_false, Nat.reduceSub, Int.reducePow, Int.reduceMul] at * <;> rw [Bool.eq_iff_iff] <;> simp only [bne_iff_ne, ne_eq, Bool.and_eq_true]
  · rcases (show a / 128 = 0 ∨ a / 128 = 1 by omega) with e1 | e1 <;> rcases (show b / 128 = 0 ∨ b / 128 = 1 by omega) with e2 | e2 <;> rw [e1, e2] <;> repeat' split
    all_goals omega
  · rcases (show a / 32768 = 0 ∨ a / 32768 = 1 by omega) with e1 | e1 <;> rcases (show b / 32768 = 0 ∨ b / 32768 = 1 by omega) with e2 | e2 <;> rw [e1, e2] <;> repeat' split
    all_goals omega
theorem nat_bit_iff (x k : Nat) : ((x : Int) / 2 ^ k % 2 = 1) ↔ x.testBit k = true := by
  rw [Nat.testBit_eq_decide_div_mod_eq, decide_eq_true_iff]
  have : ((x : Int) / 2 ^ k % 2) = ((x / 2 ^ k % 2 : Nat) : Int) := by simp
  rw [this]
  omega
theorem bit_two (n : Int) (k : Nat) : n / 2 ^ k % 2 = 0 ∨ n / 2 ^ k % 2 = 1 := by omega
theorem and_bit (a b : Int) (a0 : 0 ≤ a) (a1 : a < 65536) (b0 : 0 ≤ b) (b1 : b < 65536) (k : Nat) : (andW a b / 2 ^ k % 2 = 1) ↔ (a / 2 ^ k % 2 = 1 ∧ b / 2 ^ k % 2 = 1) := by
  obtain ⟨x, rfl⟩ := Int.eq_ofNat_of_zero_le a0
  obtain ⟨y, rfl⟩ := Int.eq_ofNat_of_zero_le b0
  rw [show andW (x : Int) (y : Int) = ((x &&& y : Nat) : Int) from u16_and_nat x y (by omega) (by omega), nat_bit_iff, nat_bit_iff, nat_bit_iff, Nat.testBit_and, Bool.and_eq_true]
theorem or_bit (a b : Int) (a0 : 0 ≤ a) (a1 : a < 65536) (b0 : 0 ≤ b) (b1 : b < 65536) (k : Nat) : (orW a b / 2 ^ k % 2 = 1) ↔ (a / 2 ^ k % 2 = 1 ∨ b / 2 ^ k % 2 = 1) := by
  obtain ⟨x, rfl⟩ := Int.eq_ofNat_of_zero_le a0
  obtain ⟨y, rfl⟩ := Int.eq_ofNat_of_zero_le b0
  rw [show orW (x : Int) (y : Int) = ((x ||| y : Nat) : Int) from u16_or_nat x y (by omega) (by omega), nat_bit_iff, nat_bit_iff, nat_bit_iff, Nat.testBit_or, Bool.or_eq_true]
theorem xor_bit (a b : Int) (a0 : 0 ≤ a) (a1 : a < 65536) (b0 : 0 ≤ b) (b1 : b < 65536) (k : Nat) : (xorW a b / 2 ^ k % 2 = 1) ↔ (a / 2 ^ k % 2 ≠ b / 2 ^ k % 2) := by
  obtain ⟨x, rfl⟩ := Int.eq_ofNat_of_zero_le a0
  obtain ⟨y, rfl⟩ := Int.eq_ofNat_of_zero_le b0
  rw [show xorW (x : Int) (y : Int) = ((x ^^^ y : Nat) : Int) from u16_xor_nat x y (by omega) (by omega), nat_bit_iff, Nat.testBit_xor]
  have h1 := nat_bit_iff x k
  have h2 := nat_bit_iff y k
  have t1 := bit_two (x : Int) k
  have t2 := bit_two (y : Int) k
  cases hx : x.testBit k <;> cases hy : y.testBit k <;> simp [hx, hy] at h1 h2 ⊢ <;> omega
theorem w_and_lo (a b : Int) : 0 ≤ andW a b := by show 0 ≤ IntKind.u16.wrap _; rw [IntKind.wrap_u16]; omega
theorem w_and_hi (a b : Int) : andW a b < 65536 := by show IntKind.u16.wrap _ < 65536; rw [IntKind.wrap_u16]; omega
theorem w_or_lo (a b : Int) : 0 ≤ orW a b := by show 0 ≤ IntKind.u16.wrap _; rw [IntKind.wrap_u16]; omega
theorem w_or_hi (a b : Int) : orW a b < 65536 := by show IntKind.u16.wrap _ < 65536; rw [IntKind.wrap_u16]; omega
theorem w_xor_lo (a b : Int) : 0 ≤ xorW a b := by show 0 ≤ IntKind.u16.wrap _; rw [IntKind.wrap_u16]; omega
theorem w_xor_hi (a b : Int) : xorW a b < 65536 := by show IntKind.u16.wrap _ < 65536; rw [IntKind.wrap_u16]; omega

theorem and_top (v : Int) (wide : Bool) (v0 : 0 ≤ v) (v1 : v < 65536) : (andW v (topW wide) != 0) = (v / topW wide % 2 == 1) := by
  obtain ⟨x, rfl⟩ := Int.eq_ofNat_of_zero_le v0
  have hx : x < 65536 := by omega
  cases wide <;> simp only [topW, if_true, Bool.false_eq_true, if_false]
  · rw [show andW (x : Int) 128 = ((x &&& 128 : Nat) : Int) from u16_and_nat x 128 hx (by decide), show (128 : Nat) = 2 ^ 7 from rfl, nat_bit 7 x, Bool.eq_iff_iff]
    simp; omega
  · rw [show andW (x : Int) 32768 = ((x &&& 32768 : Nat) : Int) from u16_and_nat x 32768 hx (by decide), show (32768 : Nat) = 2 ^ 15 from rfl, nat_bit 15 x, Bool.eq_iff_iff]
    simp; omega
theorem top_pow (wide : Bool) : topW wide = 2 ^ (sizeW wide - 1) := by cases wide <;> decide
theorem bne_iff_xor (x y : Int) (hx : x = 0 ∨ x = 1) (hy : y = 0 ∨ y = 1) : (x != y) = decide (x ≠ y) := by rcases hx with rfl | rfl <;> rcases hy with rfl | rfl <;> rfl
/-- Overflow by exclusive ors, as by the signs. -/
theorem xors_top (a b c d : Int) (wide : Bool) (a0 : 0 ≤ a) (a1 : a < 65536) (b0 : 0 ≤ b) (b1 : b < 65536) (c0 : 0 ≤ c) (c1 : c < 65536) (d0 : 0 ≤ d) (d1 : d < 65536) :
    (andW (andW (xorW a b) (xorW c d)) (topW wide) != 0) = ((a / topW wide % 2 != b / topW wide % 2) && (c / topW wide % 2 != d / topW wide % 2)) := by
  rw [and_top _ _ (w_and_lo _ _) (w_and_hi _ _), Bool.eq_iff_iff]
  simp only [beq_iff_eq, Bool.and_eq_true, bne_iff_ne, top_pow]
  rw [and_bit _ _ (w_xor_lo _ _) (w_xor_hi _ _) (w_xor_lo _ _) (w_xor_hi _ _), xor_bit _ _ a0 a1 b0 b1, xor_bit _ _ c0 c1 d0 d1]
/-- Flags joined are flags added. -/
theorem flags_add (s z p : Bool) : orW (orW (orW 0 (ifI s 128)) (ifI z 64)) (ifI p 4) = ifI s 128 + ifI z 64 + ifI p 4 := by
  cases s <;> cases z <;> cases p <;> decide +kernel
theorem flags_all (s z p c a o : Bool) : orW (orW (ifI s 128 + ifI z 64 + ifI p 4) (ifI c 1)) (orW (ifI a 16) (ifI o 2048)) = ifI s 128 + ifI z 64 + ifI p 4 + ifI c 1 + ifI a 16 + ifI o 2048 := by
  cases s <;> cases z <;> cases p <;> cases c <;> cases a <;> cases o <;> decide +kernel
def evenX (b : Int) : Bool :=
  let b1 := bits .xor .u8 b (b / 16)
  let b2 := bits .xor .u8 b1 (b1 / 4)
  let b3 := bits .xor .u8 b2 (b2 / 2)
  bits .and .u8 b3 1 == 0
theorem even_x (b : Int) (h0 : 0 ≤ b) (h1 : b ≤ 255) : evenX b = evenB b := by
  obtain ⟨n, rfl⟩ := Int.eq_ofNat_of_zero_le h0
  have key : ∀ m : Fin 256, evenX ((m.val : Nat) : Int) = evenB ((m.val : Nat) : Int) := by decide +kernel
  exact key ⟨n, by omega⟩
/-- What comes of each pair of bits is what comes of the numbers. -/
theorem ofBits_of (n : Int) (f : Nat → Int) (h0 : 0 ≤ n) (h1 : n < 65536) (hf : ∀ k, k < 16 → f k = bitI n k) : ofBits f 16 = n := by
  rw [ofBits_congr f (bitI n) 16 hf, ofBits_bit]
  simp only [Int.reducePow]
  omega
end Go.Proofs.YtcglkefaopgjeaaGreatDoor
