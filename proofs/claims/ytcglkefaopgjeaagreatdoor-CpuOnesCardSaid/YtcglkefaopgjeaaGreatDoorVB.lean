/- Parts of the proof, in one text: YtcglkefaopgjeaaGreatDoorO0 YtcglkefaopgjeaaGreatDoorO1 YtcglkefaopgjeaaGreatDoorO2 YtcglkefaopgjeaaGreatDoorO3 YtcglkefaopgjeaaGreatDoorO4 YtcglkefaopgjeaaGreatDoorO5 YtcglkefaopgjeaaGreatDoorO6 YtcglkefaopgjeaaGreatDoorO7 YtcglkefaopgjeaaGreatDoorO8 YtcglkefaopgjeaaGreatDoorOC YtcglkefaopgjeaaGreatDoorOA YtcglkefaopgjeaaGreatDoorOB YtcglkefaopgjeaaGreatDoorOE. Each part's own remark says what it proves; conditions: those of each theorem. -/
import Derived.Test.YtcglkefaopgjeaaGreatDoorR2
import Derived.Laws.AppendOwn
import Derived.Laws.OwnMore
import Derived.Test.YtcglkefaopgjeaaGreatDoorR3
import Derived.Test.YtcglkefaopgjeaaGreatDoorVA
import Derived.Test.YtcglkefaopgjeaaGreatDoorV6

/- The reference of sums: Bit, Size, Cut, Signs; Ones: walks. -/
namespace Go.Proofs.YtcglkefaopgjeaaGreatDoor
set_option linter.unusedSimpArgs false
set_option linter.unusedVariables false
open Go.RowKit

theorem bitI_zero (n : Int) : n / 2 ^ 0 = n := by simp
theorem div_pow_succ (n : Int) (k : Nat) : n / 2 ^ k / 2 = n / 2 ^ (k + 1) := by
  rw [Int.ediv_ediv_of_nonneg (Int.pow_nonneg (by decide)), Int.pow_succ]
theorem div_pow_in (n : Int) (k : Nat) (h0 : 0 ≤ n) (h1 : n ≤ 65535) : 0 ≤ n / 2 ^ k ∧ n / 2 ^ k ≤ 65535 :=
  ⟨Int.ediv_nonneg h0 (Int.pow_nonneg (by decide)), Int.le_trans (Int.ediv_le_self _ h0) h1⟩
theorem size_pred (wide : Bool) : wrap64 ((sizeW wide : Int) - 1) = ((sizeW wide - 1 : Nat) : Int) := by
  cases wide <;> simp [sizeW, wrap64]
theorem half_wrap (q : Int) (h : 0 ≤ q ∧ q ≤ 65535) : IntKind.u16.wrap (q.tdiv 2) = q / 2 := by
  rw [Int.tdiv_eq_ediv_of_nonneg h.1, IntKind.wrap_u16]; omega
set_option maxRecDepth 100000 in
set_option maxHeartbeats 800000 in
theorem refBit_any (n I : Int) (i : Nat) (hI : I = i) (w : World) (n0 : 0 ≤ n) (n1 : n ≤ 65535) (hi : i ≤ 100) :
    Calls Tryz.prog 77 #[.int .u16 n, .int .i64 I] w fun e w' => e = .returned (.int .i64 (bitI n i)) ∧ w = w' := by
  subst hI
  have HB := Lib.hid (fun k => div_pow_in n k n0 n1)
  go_enter Tryz.func77, Tryz.ntmps77
  go_wp2_with fail
  go_loop [0, 5] (fun s0 s5 => ∃ k : Nat, k ≤ i ∧ s5 = .int .i64 k ∧ s0 = .int .u16 (n / 2 ^ k)) (fun _ s5 => i - (intOf s5).toNat)
  case atStart => exact ⟨0, by omega, rfl, by rw [bitI_zero]⟩
  case round =>
    obtain ⟨k, hk, rfl, rfl⟩ := hrel
    have hq := HB.out k
    by_cases hlt : k < i
    · have c1 : ((k : Nat) : Int) < i := by omega
      have HN := Lib.hid (div_pow_succ n k)
      generalize n / 2 ^ k = q at hq HN ⊢
      go_wp2_with fail
      exact ⟨⟨k + 1, by omega, by go_num, congrArg (Value.int .u16) ((half_wrap q hq).trans HN.out)⟩, by simp [intOf]; omega⟩
    · obtain rfl : k = i := by omega
      have c1 : ¬ ((k : Nat) : Int) < k := by omega
      have HN := Lib.hid (show n / 2 ^ k % 2 = bitI n k from rfl)
      generalize n / 2 ^ k = q at hq HN ⊢
      go_wp2_with fail
      go_ret
      rw [← HN.out]
      exact ⟨rfl, rfl⟩
set_option maxRecDepth 100000 in
theorem refSize_any (wide : Bool) (w : World) : Calls Tryz.prog 76 #[.bool wide] w fun e w' => e = .returned (.int .i64 (sizeW wide)) ∧ w = w' := by
  cases wide
  · go_enter Tryz.func76, Tryz.ntmps76
    go_wp2_with fail
    go_ret
    exact ⟨rfl, rfl⟩
  · go_enter Tryz.func76, Tryz.ntmps76
    go_wp2_with fail
    go_ret
    exact ⟨rfl, rfl⟩
set_option maxRecDepth 100000 in
theorem refCut_any (n : Int) (wide : Bool) (w : World) (n0 : 0 ≤ n) (n1 : n ≤ 65535) : Calls Tryz.prog 28 #[.int .u16 n, .bool wide] w fun e w' => e = .returned (.int .u16 (cutW n wide)) ∧ w = w' := by
  cases wide
  · go_enter Tryz.func28, Tryz.ntmps28
    go_wp2_with fail
    go_ret
    exact ⟨rfl, rfl⟩
  · go_enter Tryz.func28, Tryz.ntmps28
    go_wp2_with fail
    go_ret
    exact ⟨rfl, rfl⟩
/-- Ones, so far. -/
theorem onesOf_step (n : Int) (k : Nat) : onesOf n (k + 1) = onesOf n k + n / 2 ^ k % 2 := by
  induction k generalizing n with
  | zero => simp [onesOf]
  | succ k ih =>
    rw [onesOf, ih (n / 2), onesOf, Int.ediv_ediv_of_nonneg (by decide), show (2 : Int) * 2 ^ k = 2 ^ (k + 1) by rw [Int.pow_succ, Int.mul_comm]]
    omega
theorem onesOf_in (n : Int) (k : Nat) : 0 ≤ onesOf n k ∧ onesOf n k ≤ k := by
  induction k with
  | zero => simp [onesOf]
  | succ k ih => rw [onesOf_step]; omega
set_option maxRecDepth 100000 in
set_option maxHeartbeats 800000 in
theorem refOnes_any (n I : Int) (i : Nat) (hI : I = i) (w : World) (n0 : 0 ≤ n) (n1 : n ≤ 65535) (hi : i ≤ 100) :
    Calls Tryz.prog 113 #[.int .u16 n, .int .i64 I] w fun e w' => e = .returned (.int .i64 (onesOf n i)) ∧ w = w' := by
  subst hI
  have HB := Lib.hid (fun k => div_pow_in n k n0 n1)
  have HO := Lib.hid (fun k => onesOf_in n k)
  go_enter Tryz.func113, Tryz.ntmps113
  go_wp2_with fail
  go_loop [0, 5, 6] (fun s0 s5 s6 => ∃ k : Nat, k ≤ i ∧ s6 = .int .i64 k ∧ s0 = .int .u16 (n / 2 ^ k) ∧ s5 = .int .i64 (onesOf n k)) (fun _ _ s6 => i - (intOf s6).toNat)
  case atStart => exact ⟨0, by omega, rfl, by rw [bitI_zero], rfl⟩
  case round =>
    obtain ⟨k, hk, rfl, rfl, rfl⟩ := hrel
    have hq := HB.out k
    have ho := HO.out k
    by_cases hlt : k < i
    · have c1 : ((k : Nat) : Int) < i := by omega
      have HN := Lib.hid (div_pow_succ n k)
      have HS := Lib.hid (onesOf_step n k)
      generalize n / 2 ^ k = q at hq HN HS ⊢
      generalize onesOf n k = c at ho HS ⊢
      go_wp2_with fail
      exact ⟨⟨k + 1, by omega, by go_num, congrArg (Value.int .u16) ((half_wrap q hq).trans HN.out), congrArg (Value.int .i64) HS.out.symm⟩, by simp [intOf]; omega⟩
    · obtain rfl : k = i := by omega
      have c1 : ¬ ((k : Nat) : Int) < k := by omega
      generalize n / 2 ^ k = q at hq ⊢
      go_wp2_with fail
      go_ret
      exact ⟨rfl, rfl⟩
theorem refSign_all (n : Int) (wide : Bool) : (bitI (cutW n wide) (sizeW wide - 1) == 1) = (n / topW wide % 2 == 1) := by
  unfold bitI cutW sizeW topW
  cases wide
  · simp only [Bool.false_eq_true, if_false, Nat.reduceSub, Int.reducePow]
    rw [Bool.eq_iff_iff]; simp; omega
  · simp only [if_true, Nat.reduceSub, Int.reducePow]
theorem sgn_cut (n : Int) (wide : Bool) (h0 : 0 ≤ n) (h1 : n < 2 * topW wide) : cutW n wide = n := by
  unfold cutW
  cases wide
  · simp only [topW, Bool.false_eq_true, if_false] at h1 ⊢; omega
  · rfl
set_option maxRecDepth 100000 in
set_option maxHeartbeats 1600000 in
/-- The reference's signs are the program's, of a number that is cut. -/
theorem refSigns_any (v : Int) (wide : Bool) (w : World) (h0 : 0 ≤ v) (h1 : v < 2 * topW wide) :
    Calls Tryz.prog 70 #[.int .u16 v, .bool wide] w fun e w' => e = .returned (.int .u16 (sgnF v wide)) ∧ w = w' := by
  have hc := sgn_cut v wide h0 h1
  have tl : 2 * topW wide ≤ 65536 := by cases wide <;> decide
  have KC := Lib.hid (fun w => refCut_any v wide w h0 (by omega))
  rw [hc] at KC
  have KS := Lib.hid (fun w => refSize_any wide w)
  have KB := Lib.hid (fun I w (hI : I = ((sizeW wide - 1 : Nat) : Int)) => refBit_any v I (sizeW wide - 1) hI w h0 (by omega) (by cases wide <;> decide))
  have KO := Lib.hid (fun w => refOnes_any (v % 256) 8 8 rfl w (by omega) (by omega) (by decide))
  have hs1 := refSign_all v wide
  rw [hc] at hs1
  have ho := onesOf_in (v % 256) 8
  have HF := Lib.hid (show sgnF v wide = ifI (v / topW wide % 2 == 1) 128 + ifI (v == 0) 64 + ifI (onesOf (v % 256) 8 % 2 == 0) 4 by unfold sgnF evenB; rw [hc])
  rw [← hs1] at HF
  have hbv : bitI v (sizeW wide - 1) = 0 ∨ bitI v (sizeW wide - 1) = 1 := by unfold bitI; omega
  generalize bitI v (sizeW wide - 1) = b at KB HF hbv
  generalize onesOf (v % 256) 8 = o at KO HF ho
  clear hs1 hc
  have c1 : (b == 1) = true ∨ (b == 1) = false := by cases (b == 1) <;> simp
  have c2 : (v == 0) = true ∨ (v == 0) = false := by cases (v == 0) <;> simp
  have c3 : (o % 2 == 0) = true ∨ (o % 2 == 0) = false := by cases (o % 2 == 0) <;> simp
  rcases c1 with c1 | c1 <;> rcases c2 with c2 | c2 <;> rcases c3 with c3 | c3
  all_goals
    rw [c1, c2, c3] at HF
    go_enter Tryz.func70, Tryz.ntmps70
    go_wp2_with fail
    refine (KC.out _).mono ?_
    rintro e w' ⟨rfl, rfl⟩; dsimp only
    go_wp2_with fail
    refine (KS.out _).mono ?_
    rintro e w' ⟨rfl, rfl⟩; dsimp only
    go_wp2_with fail
    refine (KB.out _ _ (size_pred wide)).mono ?_
    rintro e w' ⟨rfl, rfl⟩; dsimp only
    go_wp2_with fail
    refine (KO.out _).mono ?_
    rintro e w' ⟨rfl, rfl⟩; dsimp only
    go_wp2_with fail
    go_ret
    rw [HF.out]
    exact ⟨rfl, rfl⟩
end Go.Proofs.YtcglkefaopgjeaaGreatDoor

/- The reference of sums: numbers that are appended; of: walk. -/
namespace Go.Proofs.YtcglkefaopgjeaaGreatDoor
set_option linter.unusedSimpArgs false
set_option linter.unusedVariables false
open Go.RowKit

theorem info_int : (Tryz.prog.info? 3).map (fun i => (i.zero, i.size, i.bytes)) = some (some (.int .i64 0), 1, 8) := by kernel_rfl
def intsV (l : List Int) : List Value := l.map fun x => .int .i64 x
theorem intsV_app (a b : List Int) : intsV (a ++ b) = intsV a ++ intsV b := by simp [intsV]
theorem intsV_len (a : List Int) : (intsV a).length = a.length := by simp [intsV]
/-- Numbers gathered so far, in a row of one's own. -/
structure Ints (w wx : World) (v : Value) (l : List Int) : Prop where
  b : Below w.heap.size w wx
  o : wx.ownsRow w.heap.size 3 1 v l.length (intsV l)
theorem ints_new (w : World) : Ints w (w.alloc (.cells #[] 3)) (.slice (some ⟨w.heap.size, 0, none⟩) 0 0) [] :=
  ⟨(Below.refl w.heap.size w).alloc (Nat.le_refl _) _, World.ownsRow_made w #[] 0 (Nat.le_refl _) (by unfold maxLen; omega) rfl⟩
theorem Ints.alloc {w wx : World} {v : Value} {l : List Int} (h : Ints w wx v l) (o : Obj) : Ints w (wx.alloc o) v l := ⟨h.b.alloc h.b.size o, h.o.alloc o⟩
theorem Ints.app {w wx w1 : World} {v v' : Value} {l l2 : List Int} (h : Ints w wx v l) (hown : w1.ownsRow w.heap.size 3 1 v' (l.length + l2.length) (intsV l ++ intsV l2)) (hg : wx.grownBy w1 v.ownBlock) : Ints w w1 v' (l ++ l2) := by
  have hob := fun b hb => (h.o.lt b hb).1
  refine ⟨Below.grown h.b hg h.b.size hob, ?_⟩
  rw [intsV_app, List.length_append]
  exact hown
/-- A number is appended. -/
theorem wpList_pushI {ops : Array Oper} {rest : List Oper} {o : Oper} {a : Act} {Q : Exit → Act → World → Prop} (hgd : o.guard = none) (s x : Operand)
    (ho : o.op = .call { callee := .builtin .append, args := #[s, x], argTypes := #[76, 76] }) {w wy : World} {v : Value} {l : List Int} (hs : a.eval s = v) (h : Ints w wy v l)
    (ad : Addr) (m c : Nat) (news : List Int) (hx : a.eval x = .slice (some ad) m c) (hm : news.length = m) (hc : ∀ j, j < m → wy.cell? (ad.add j) = some (.int .i64 (news.getD j 0))) (hl : l.length + m ≤ 100)
    (hq : ∀ v' w', Ints w w' v' (l ++ news) → wpList Tryz.prog ops Q rest (a.put o.dst v') w') : wpList Tryz.prog ops Q (o :: rest) a wy := by
  obtain ⟨i0, hi0, hz0, hz1, hz2⟩ := info_parts info_int
  refine wpList_append_own _ hgd s x 76 ho w.heap.size 3 i0 _ 1 8 Tryz.underlying76 hi0 hz0 hz1 hz2 rfl (by omega) v l.length (intsV l) hs h.o ad m c (intsV news) hx (by rw [intsV_len, hm]; omega) ?_ ?_ (by unfold maxLen; omega) (by omega) h.b.size ?_
  · intro j u hj
    have hjm : j < news.length := by
      rcases Nat.lt_or_ge j news.length with e | e
      · exact e
      · rw [List.getElem?_eq_none (by rw [intsV_len]; exact e)] at hj; cases hj
    rw [hc j (by omega)]
    rw [intsV, List.getElem?_map, List.getElem?_eq_getElem hjm] at hj
    rw [List.getD_eq_getElem?_getD, List.getElem?_eq_getElem hjm]
    exact hj
  · intro u hu
    obtain ⟨y, -, rfl⟩ := List.mem_map.1 hu
    rfl
  · intro v' w' hown hg hat
    refine hq v' w' (h.app ?_ hg)
    rw [hm]
    exact hown
theorem one_cellI (w : World) (x : Int) : ∀ j, j < 1 → (w.alloc (.cells #[.int .i64 x] 3)).cell? ((⟨w.heap.size, 0, none⟩ : Addr).add j) = some (.int .i64 ([x].getD j 0)) := by
  intro j hj
  obtain rfl : j = 0 := by omega
  have e : (⟨w.heap.size, 0, none⟩ : Addr).add 0 = ⟨w.heap.size, 0, none⟩ := rfl
  rw [e, (Row.new w #[.int .i64 x] 3).cell]
  rfl
/-- What was gathered is there. -/
theorem Ints.done {w wx : World} {v : Value} {l : List Int} (h : Ints w wx v l) (hl : 0 < l.length) :
    ∃ g cap : Nat, v = .slice (some ⟨g, 0, none⟩) l.length cap ∧ ∀ k, k < l.length → wx.cell? ⟨g, k, none⟩ = some (.int .i64 (l.getD k 0)) := by
  have ho := h.o
  obtain ⟨_, ⟨_, h0⟩ | ⟨g, cap, cur, rfl, hg, hgr, hcn, hcm, hcs, _⟩⟩ := h.o
  · omega
  · refine ⟨g, cap, rfl, ?_⟩
    intro k hk
    have hcell := ho.cells (g := g) rfl k (.int .i64 (l.getD k 0)) (by
      rw [intsV, List.getElem?_map, List.getD_eq_getElem?_getD, List.getElem?_eq_getElem hk]; rfl)
    have e : (⟨g, 0, none⟩ : Addr).add k = ⟨g, k, none⟩ := by unfold Addr.add; split <;> simp_all
    rwa [e] at hcell

theorem ofBits_in (f : Nat → Int) (k : Nat) (hf : ∀ j, j < k → 0 ≤ f j ∧ f j ≤ 1) : 0 ≤ ofBits f k ∧ ofBits f k < 2 ^ k := by
  induction k with
  | zero => simp [ofBits]
  | succ k ih =>
    have h1 := ih (fun j hj => hf j (by omega))
    have h2 := hf k (by omega)
    rw [ofBits, Int.pow_succ]
    generalize (2 : Int) ^ k = P at h1 ⊢
    rcases (show f k = 0 ∨ f k = 1 by omega) with e | e <;> rw [e] <;> omega
theorem pow_in (k : Nat) (h : k < 16) : 1 ≤ (2 : Int) ^ k ∧ (2 : Int) ^ k ≤ 32768 := by
  rcases below16 h with rfl | rfl | rfl | rfl | rfl | rfl | rfl | rfl | rfl | rfl | rfl | rfl | rfl | rfl | rfl | rfl <;> decide
set_option maxRecDepth 100000 in
set_option maxHeartbeats 1600000 in
theorem refOf_any (g L cap : Nat) (f : Nat → Int) (w : World) (hL : L ≤ 16) (hc : ∀ k, k < L → w.cell? ⟨g, k, none⟩ = some (.int .i64 (f k))) (hf : ∀ k, k < L → f k = 0 ∨ f k = 1) :
    Calls Tryz.prog 78 #[.slice (some ⟨g, 0, none⟩) L cap] w fun e w' => e = .returned (.int .u16 (ofBits f L)) ∧ w = w' := by
  have HC := Lib.hid hc
  have HF := Lib.hid hf
  have HIN := Lib.hid (fun k (hk : k ≤ L) => ofBits_in f k (fun j hj => by rcases hf j (by omega) with e | e <;> rw [e] <;> omega))
  clear hc hf
  go_enter Tryz.func78, Tryz.ntmps78
  go_wp2_with fail
  go_loop [3, 4, 5] (fun s3 s4 s5 => ∃ k : Nat, k ≤ L ∧ s5 = .int .i64 k ∧ s3 = .int .u16 (ofBits f k) ∧ s4 = .int .u16 (2 ^ k % 65536)) (fun _ _ s5 => L - (intOf s5).toNat)
  case atStart => exact ⟨0, by omega, rfl, rfl, rfl⟩
  case round =>
    obtain ⟨k, hk, rfl, rfl, rfl⟩ := hrel
    have hin := HIN.out k hk
    by_cases hlt : k < L
    · have c1 : ((k : Nat) : Int) < L := by omega
      have hp := pow_in k (by omega)
      have HN := Lib.hid (show ofBits f k + f k * 2 ^ k = ofBits f (k + 1) from rfl)
      have HP := Lib.hid (show 2 ^ k * 2 % 65536 = (2 : Int) ^ (k + 1) % 65536 by rw [Int.pow_succ])
      rw [show (2 : Int) ^ k % 65536 = 2 ^ k by omega]
      have hck := HC.out k hlt
      generalize (2 : Int) ^ k = P at hp hin HN HP ⊢
      generalize ofBits f k = n at hin HN ⊢
      rcases HF.out k hlt with e | e <;> rw [e] at hck HN
      · go_wp2_with fail
        refine ⟨⟨k + 1, by omega, by go_num, ?_, ?_⟩, by simp [intOf]; omega⟩
        · rw [← HN.out]; simp
        · rw [← HP.out, IntKind.wrap_u16]
      · go_wp2_with fail
        refine ⟨⟨k + 1, by omega, by go_num, ?_, ?_⟩, by simp [intOf]; omega⟩
        · rw [← HN.out, Int.one_mul]
        · rw [← HP.out, IntKind.wrap_u16]
    · obtain rfl : k = L := by omega
      have c1 : ¬ ((k : Nat) : Int) < k := by omega
      go_wp2_with fail
      go_ret
      exact ⟨rfl, rfl⟩
end Go.Proofs.YtcglkefaopgjeaaGreatDoor

/- The reference of sums: Add: walk. -/
namespace Go.Proofs.YtcglkefaopgjeaaGreatDoor
set_option linter.unusedSimpArgs false
set_option linter.unusedVariables false
open Go.RowKit

/-- The number of bits gathered, the carry ahead, the flag A so far. -/
def bitsL (x : Int) (k : Nat) : List Int := (List.range k).map (bitI x)
theorem bitsL_len (x : Int) (k : Nat) : (bitsL x k).length = k := by simp [bitsL]
theorem bitsL_step (x : Int) (k : Nat) : bitsL x k ++ [bitI x k] = bitsL x (k + 1) := by simp [bitsL, List.range_succ]
theorem bitsL_get (x : Int) (n k : Nat) (h : k < n) : (bitsL x n).getD k 0 = bitI x k := by
  rw [List.getD_eq_getElem?_getD, bitsL, List.getElem?_map, List.getElem?_range h]; rfl
def lastOf (f : Nat → Int) (c : Int) : Nat → Int
  | 0 => c
  | k + 1 => f k
def halfF (f : Nat → Int) : Nat → Int
  | 0 => 0
  | 1 => 0
  | 2 => 0
  | 3 => 0
  | _ => ifI (f 4 == 1) 16
theorem halfF_step (f : Nat → Int) (k : Nat) (h : k ≠ 3) : halfF f (k + 1) = halfF f k := by
  match k, h with
  | 0, _ => rfl
  | 1, _ => rfl
  | 2, _ => rfl
  | 3, h => exact absurd rfl h
  | k + 4, _ => rfl
theorem bitI_in (n : Int) (k : Nat) : 0 ≤ bitI n k ∧ bitI n k ≤ 1 := by unfold bitI; omega
theorem size_le (wide : Bool) : sizeW wide ≤ 16 := by cases wide <;> decide

theorem halfF_size (f : Nat → Int) (wide : Bool) : halfF f (sizeW wide) = ifI (f 4 == 1) 16 := by cases wide <;> rfl
theorem lastOf_size (f : Nat → Int) (c : Int) (wide : Bool) : lastOf f c (sizeW wide) = f (sizeW wide - 1) := by cases wide <;> rfl
theorem sgnF_in (v : Int) (wide : Bool) : 0 ≤ sgnF v wide ∧ sgnF v wide ≤ 196 := by
  unfold sgnF ifI
  repeat' split
  all_goals omega
theorem bits_all (x : Int) (wide : Bool) : ofBits (bitI x) (sizeW wide) = x % (2 * topW wide) := by rw [ofBits_bit, pow_size]
set_option maxRecDepth 100000 in
set_option maxHeartbeats 3200000 in
theorem refAdd_any (a b c : Int) (wide : Bool) (w : World) (a0 : 0 ≤ a) (a1 : a < 2 * topW wide) (b0 : 0 ≤ b) (b1 : b < 2 * topW wide) (hc : 0 ≤ c ∧ c ≤ 1) :
    Calls Tryz.prog 26 #[.int .u16 a, .int .u16 b, .int .i64 c, .bool wide] w fun e w' => e = .returned (.tuple #[.int .u16 (addV a b c wide), .int .u16 (addF a b c wide)]) ∧ Below w.heap.size w w' := by
  have tl : 2 * topW wide ≤ 65536 := by cases wide <;> decide
  have KS := Lib.hid (fun w => refSize_any wide w)
  have KA := Lib.hid (fun k w (hk : k ≤ 16) => refBit_any a (k : Nat) k rfl w a0 (by omega) (by omega))
  have KB := Lib.hid (fun k w (hk : k ≤ 16) => refBit_any b (k : Nat) k rfl w b0 (by omega) (by omega))
  have HC := Lib.hid (fun k (hk : k < 16) => carry_bool a b c hc k hk)
  have HST := Lib.hid (fun k (hk : k < 16) => carry_step a b c hc k hk)
  have HI0 := Lib.hid (ints_new w)
  have sl := size_le wide
  go_enter Tryz.func26, Tryz.ntmps26
  go_wp2_with fail
  go_loopw [2, 10, 11, 12, 13] (fun s2 s10 s11 s12 s13 wr => ∃ k : Nat, k ≤ sizeW wide ∧ s13 = .int .i64 k ∧ s2 = .int .i64 (carry a b c k) ∧ s11 = .int .i64 (lastOf (carry a b c) c k) ∧ s12 = .int .u16 (halfF (carry a b c) k) ∧ Ints w wr s10 (bitsL (a + b + c) k)) (fun _ _ _ _ s13 _ => sizeW wide - (intOf s13).toNat)
  case atStart => exact ⟨0, by omega, rfl, by rw [carry_zero], rfl, rfl, HI0.out⟩
  case round =>
    obtain ⟨k, hk, rfl, rfl, rfl, rfl, hi⟩ := hrel
    have HI := Lib.hid hi
    clear hi HI0
    by_cases hlt : k < sizeW wide
    · have c1 : ((k : Nat) : Int) < (sizeW wide : Int) := by omega
      have hA := bitI_in a k
      have hB := bitI_in b k
      have hC := HC.out k (by omega)
      obtain ⟨e1, e2⟩ := HST.out k (by omega)
      have KA1 := Lib.hid (fun w => KA.out k w (by omega))
      have KB1 := Lib.hid (fun w => KB.out k w (by omega))
      have HE1 := Lib.hid e1
      have HE2 := Lib.hid e2
      have HBL := Lib.hid (bitsL_step (a + b + c) k)
      clear e1 e2
      generalize bitI a k = A at hA KA1 HE1 HE2
      generalize bitI b k = B at hB KB1 HE1 HE2
      obtain ⟨C, hCC⟩ : ∃ C, carry a b c k = C := ⟨_, rfl⟩
      have HCC := Lib.hid hCC
      rw [hCC] at hC HE1 HE2 ⊢
      clear hCC
      go_wp2_with fail
      refine (KS.out _).mono ?_
      rintro e w' ⟨rfl, rfl⟩; dsimp only
      go_wp2_with fail
      refine (KA1.out _).mono ?_
      rintro e w' ⟨rfl, rfl⟩; dsimp only
      go_wp2_with fail
      refine (KB1.out _).mono ?_
      rintro e w' ⟨rfl, rfl⟩; dsimp only
      by_cases k3 : k = 3
      · subst k3
        obtain ⟨C4, hC4⟩ : ∃ C, carry a b c 4 = C := ⟨_, rfl⟩
        have hcb := carry_bool a b c hc 4 (by decide)
        rw [hC4] at hcb
        have HC4 := Lib.hid hC4
        have HE3 := Lib.hid (show (A + B + C) / 2 = C4 from HE1.out.trans hC4)
        clear hC4
        rw [show halfF (carry a b c) 3 = 0 from rfl]
        rcases (show C4 = 0 ∨ C4 = 1 by omega) with e | e
        · have hq : ((A + B + C) / 2 == 1) = false := by rw [HE3.out, e]; rfl
          have HH := Lib.hid (show halfF (carry a b c) 4 = 0 by show ifI (carry a b c 4 == 1) 16 = 0; rw [HC4.out, e]; rfl)
          clear e
          go_wp2_with (at_builtin; go_loud (refine wpList_pushI rfl _ _ rfl rfl (HI.out.alloc _) ⟨_, 0, none⟩ 1 1 [_] rfl rfl (one_cellI _ _) (by rw [bitsL_len]; omega) ?_; intro v' w1 HPN)); go_wp2_with fail
          rw [HE2.out, HBL.out] at HPN
          exact ⟨⟨4, by omega, by go_num, congrArg (Value.int .i64) HE1.out, congrArg (Value.int .i64) HCC.out.symm, congrArg (Value.int .u16) HH.out.symm, HPN⟩, by simp [intOf]; omega⟩
        · have hq : ((A + B + C) / 2 == 1) = true := by rw [HE3.out, e]; rfl
          have HH := Lib.hid (show halfF (carry a b c) 4 = 16 by show ifI (carry a b c 4 == 1) 16 = 16; rw [HC4.out, e]; rfl)
          clear e
          go_wp2_with (at_builtin; go_loud (refine wpList_pushI rfl _ _ rfl rfl (HI.out.alloc _) ⟨_, 0, none⟩ 1 1 [_] rfl rfl (one_cellI _ _) (by rw [bitsL_len]; omega) ?_; intro v' w1 HPN)); go_wp2_with fail
          rw [HE2.out, HBL.out] at HPN
          exact ⟨⟨4, by omega, by go_num, congrArg (Value.int .i64) HE1.out, congrArg (Value.int .i64) HCC.out.symm, congrArg (Value.int .u16) HH.out.symm, HPN⟩, by simp [intOf]; omega⟩
      · have b3 : (((k : Nat) : Int) == 3) = false := by simp; omega
        have HH := Lib.hid (halfF_step (carry a b c) k k3)
        have HK3 := Lib.hid k3
        clear k3
        go_wp2_with (at_builtin; go_loud (refine wpList_pushI rfl _ _ rfl rfl (HI.out.alloc _) ⟨_, 0, none⟩ 1 1 [_] rfl rfl (one_cellI _ _) (by rw [bitsL_len]; omega) ?_; intro v' w1 HPN)); go_wp2_with fail
        rw [HE2.out, HBL.out] at HPN
        exact ⟨⟨k + 1, by omega, by go_num, congrArg (Value.int .i64) HE1.out, congrArg (Value.int .i64) HCC.out.symm, congrArg (Value.int .u16) HH.out.symm, HPN⟩, by simp [intOf]; omega⟩
    · have hkn : k = sizeW wide := by omega
      subst hkn
      have c1 : ¬ ((sizeW wide : Nat) : Int) < (sizeW wide : Int) := by omega
      obtain ⟨g, cap, hv, hcells⟩ := HI.out.done (by rw [bitsL_len]; cases wide <;> decide)
      rw [bitsL_len] at hv hcells
      have KOF := Lib.hid (refOf_any g (sizeW wide) cap (bitI (a + b + c)) wr sl (fun k hk => by rw [hcells k hk, bitsL_get _ _ _ hk]) (fun k hk => by have := bitI_in (a + b + c) k; omega))
      rw [bits_all, show (a + b + c) % (2 * topW wide) = addV a b c wide from rfl] at KOF
      subst hv
      have hvw := addV_wf a b c wide
      have hsg := sgnF_in (addV a b c wide) wide
      have KSG := Lib.hid (fun w => refSigns_any (addV a b c wide) wide w hvw.1 hvw.2)
      have ec := add_c a b c wide a0 a1 b0 b1 hc
      have eo := add_o a b c wide a0 a1 b0 b1 hc
      have ea := add_a a b c a0 b0 hc
      have HFL := Lib.hid (show addF a b c wide = sgnF (addV a b c wide) wide + ifI (addC a b c wide) 1 + ifI (addA a b c) 16 + ifI (addO a b (addV a b c wide) wide) 2048 from rfl)
      rw [← ec, ← eo, ← ea] at HFL
      have hh := halfF_size (carry a b c) wide
      have hl := lastOf_size (carry a b c) c wide
      rw [hh, hl]
      have b1' : 0 ≤ carry a b c (sizeW wide) ∧ carry a b c (sizeW wide) ≤ 1 := by
        have := hvw
        cases wide
        · exact carry_bool a b c hc 8 (by decide)
        · simp only [sizeW, topW, if_true] at *
          unfold carry
          simp only [Int.reducePow]
          omega
      have b2' := carry_bool a b c hc (sizeW wide - 1) (by have : sizeW wide ≤ 16 := sl; cases wide <;> decide)
      have h4 : 0 ≤ ifI (carry a b c 4 == 1) 16 ∧ ifI (carry a b c 4 == 1) 16 ≤ 16 := by unfold ifI; split <;> omega
      have HIB := Lib.hid HI.out.b
      clear ec eo ea hh hl hcells HI KA KB HC HST
      generalize ifI (carry a b c 4 == 1) 16 = h at h4 HFL ⊢
      generalize carry a b c (sizeW wide) = CL at b1' HFL ⊢
      generalize carry a b c (sizeW wide - 1) = LL at b2' HFL ⊢
      generalize sgnF (addV a b c wide) wide = sg at hsg KSG HFL
      obtain ⟨va, hva⟩ : ∃ v, addV a b c wide = v := ⟨_, rfl⟩
      have HVA := Lib.hid hva
      rw [hva] at hvw KOF KSG
      clear hva
      rcases (show CL = 0 ∨ CL = 1 by omega) with rfl | rfl <;> rcases (show LL = 0 ∨ LL = 1 by omega) with rfl | rfl
      all_goals
        go_wp2_with fail
        refine (KS.out _).mono ?_
        rintro e w' ⟨rfl, rfl⟩; dsimp only
        go_wp2_with fail
        refine KOF.out.mono ?_
        rintro e w' ⟨rfl, rfl⟩; dsimp only
        go_wp2_with fail
        refine (KSG.out _).mono ?_
        rintro e w' ⟨rfl, rfl⟩; dsimp only
        go_wp2_with fail
        go_ret2
        refine ⟨ret2_int HVA.out.symm ?_, HIB.out⟩
        rw [HFL.out]
        simp [ifI]
        try omega
end Go.Proofs.YtcglkefaopgjeaaGreatDoor

/- The reference of sums: Sub: walk. -/
namespace Go.Proofs.YtcglkefaopgjeaaGreatDoor
set_option linter.unusedSimpArgs false
set_option linter.unusedVariables false
open Go.RowKit

set_option maxRecDepth 100000 in
set_option maxHeartbeats 3200000 in
theorem refSub_any (a b c : Int) (wide : Bool) (w : World) (a0 : 0 ≤ a) (a1 : a < 2 * topW wide) (b0 : 0 ≤ b) (b1 : b < 2 * topW wide) (hc : 0 ≤ c ∧ c ≤ 1) :
    Calls Tryz.prog 27 #[.int .u16 a, .int .u16 b, .int .i64 c, .bool wide] w fun e w' => e = .returned (.tuple #[.int .u16 (subV a b c wide), .int .u16 (subF a b c wide)]) ∧ Below w.heap.size w w' := by
  have tl : 2 * topW wide ≤ 65536 := by cases wide <;> decide
  have KS := Lib.hid (fun w => refSize_any wide w)
  have KA := Lib.hid (fun k w (hk : k ≤ 16) => refBit_any a (k : Nat) k rfl w a0 (by omega) (by omega))
  have KB := Lib.hid (fun k w (hk : k ≤ 16) => refBit_any b (k : Nat) k rfl w b0 (by omega) (by omega))
  have HC := Lib.hid (fun k => borrow_bool a b c k)
  have HST := Lib.hid (fun k (hk : k < 16) => borrow_step a b c hc k hk)
  have HI0 := Lib.hid (ints_new w)
  have sl := size_le wide
  go_enter Tryz.func27, Tryz.ntmps27
  go_wp2_with fail
  go_loopw [2, 10, 11, 12, 13] (fun s2 s10 s11 s12 s13 wr => ∃ k : Nat, k ≤ sizeW wide ∧ s13 = .int .i64 k ∧ s2 = .int .i64 (borrow a b c k) ∧ s11 = .int .i64 (lastOf (borrow a b c) c k) ∧ s12 = .int .u16 (halfF (borrow a b c) k) ∧ Ints w wr s10 (bitsL (a - b - c) k)) (fun _ _ _ _ s13 _ => sizeW wide - (intOf s13).toNat)
  case atStart => exact ⟨0, by omega, rfl, by rw [borrow_zero a b c hc], rfl, rfl, HI0.out⟩
  case round =>
    obtain ⟨k, hk, rfl, rfl, rfl, rfl, hi⟩ := hrel
    have HI := Lib.hid hi
    clear hi HI0
    by_cases hlt : k < sizeW wide
    · have c1 : ((k : Nat) : Int) < (sizeW wide : Int) := by omega
      have hA := bitI_in a k
      have hB := bitI_in b k
      have hC := HC.out k
      obtain ⟨e1, e2⟩ := HST.out k (by omega)
      have KA1 := Lib.hid (fun w => KA.out k w (by omega))
      have KB1 := Lib.hid (fun w => KB.out k w (by omega))
      have HE1 := Lib.hid e1
      have HE2 := Lib.hid e2
      have HBL := Lib.hid (bitsL_step (a - b - c) k)
      clear e1 e2
      generalize bitI a k = A at hA KA1 HE1 HE2
      generalize bitI b k = B at hB KB1 HE1 HE2
      obtain ⟨C, hCC⟩ : ∃ C, borrow a b c k = C := ⟨_, rfl⟩
      have HCC := Lib.hid hCC
      rw [hCC] at hC HE1 HE2 ⊢
      clear hCC
      go_wp2_with fail
      refine (KS.out _).mono ?_
      rintro e w' ⟨rfl, rfl⟩; dsimp only
      go_wp2_with fail
      refine (KA1.out _).mono ?_
      rintro e w' ⟨rfl, rfl⟩; dsimp only
      go_wp2_with fail
      refine (KB1.out _).mono ?_
      rintro e w' ⟨rfl, rfl⟩; dsimp only
      go_wp2_with fail
      obtain ⟨wo, hwo⟩ : ∃ wo : World, wo = wr := ⟨_, rfl⟩
      subst hwo
      go_loopw [2, 14] (fun s2 s14 wr => wo = wr ∧ ∃ j : Nat, j ≤ 1 ∧ s2 = .int .i64 j ∧ s14 = .int .i64 (A - B - C + 2 * j) ∧ (j = 1 → A - B - C < 0)) (fun s2 _ _ => 1 - (intOf s2).toNat)
      case atStart => exact ⟨rfl, 0, by omega, rfl, by simp, by omega⟩
      case round =>
        obtain ⟨rfl, j, hj, rfl, rfl, hj1⟩ := hrel
        by_cases hneg : A - B - C + 2 * (j : Int) < 0
        · obtain rfl : j = 0 := by omega
          go_wp2_with fail
          refine ⟨⟨by first | trivial | rfl, 1, by omega, rfl, ?_, fun _ => by omega⟩, by simp [intOf]⟩
          simp
        · have hd : A - B - C + 2 * (j : Int) = (A - B - C) % 2 := by
            rcases (show j = 0 ∨ j = 1 by omega) with e | e <;> subst e <;> omega
          have hjb : ((j : Nat) : Int) = borrow a b c (k + 1) := by
            rw [← HE1.out]
            rcases (show j = 0 ∨ j = 1 by omega) with e | e
            · subst e; rw [if_neg (by omega)]; rfl
            · subst e; rw [if_pos (by have := hj1 rfl; omega)]; rfl
          have HJB := Lib.hid hjb
          rw [hd]
          clear hd hjb hneg hj1
          by_cases k3 : k = 3
          · subst k3
            rw [show halfF (borrow a b c) 3 = 0 from rfl]
            rcases (show j = 0 ∨ j = 1 by omega) with e | e
            · subst e
              have HH := Lib.hid (show halfF (borrow a b c) 4 = 0 by show ifI (borrow a b c 4 == 1) 16 = 0; rw [← HJB.out]; rfl)
              go_wp2_with (at_builtin; go_loud (refine wpList_pushI rfl _ _ rfl rfl (HI.out.alloc _) ⟨_, 0, none⟩ 1 1 [_] rfl rfl (one_cellI _ _) (by rw [bitsL_len]; omega) ?_; intro v' w1 HPN)); go_wp2_with fail
              rw [HE2.out, HBL.out] at HPN
              exact ⟨⟨4, by omega, by go_num, congrArg (Value.int .i64) HJB.out, congrArg (Value.int .i64) HCC.out.symm, congrArg (Value.int .u16) HH.out.symm, HPN⟩, by simp [intOf]; omega⟩
            · subst e
              have HH := Lib.hid (show halfF (borrow a b c) 4 = 16 by show ifI (borrow a b c 4 == 1) 16 = 16; rw [← HJB.out]; rfl)
              go_wp2_with (at_builtin; go_loud (refine wpList_pushI rfl _ _ rfl rfl (HI.out.alloc _) ⟨_, 0, none⟩ 1 1 [_] rfl rfl (one_cellI _ _) (by rw [bitsL_len]; omega) ?_; intro v' w1 HPN)); go_wp2_with fail
              rw [HE2.out, HBL.out] at HPN
              exact ⟨⟨4, by omega, by go_num, congrArg (Value.int .i64) HJB.out, congrArg (Value.int .i64) HCC.out.symm, congrArg (Value.int .u16) HH.out.symm, HPN⟩, by simp [intOf]; omega⟩
          · have b3 : (((k : Nat) : Int) == 3) = false := by simp; omega
            have HH := Lib.hid (halfF_step (borrow a b c) k k3)
            have HK3 := Lib.hid k3
            clear k3
            go_wp2_with (at_builtin; go_loud (refine wpList_pushI rfl _ _ rfl rfl (HI.out.alloc _) ⟨_, 0, none⟩ 1 1 [_] rfl rfl (one_cellI _ _) (by rw [bitsL_len]; omega) ?_; intro v' w1 HPN)); go_wp2_with fail
            rw [HE2.out, HBL.out] at HPN
            exact ⟨⟨k + 1, by omega, by go_num, congrArg (Value.int .i64) HJB.out, congrArg (Value.int .i64) HCC.out.symm, congrArg (Value.int .u16) HH.out.symm, HPN⟩, by simp [intOf]; omega⟩
    · have hkn : k = sizeW wide := by omega
      subst hkn
      have c1 : ¬ ((sizeW wide : Nat) : Int) < (sizeW wide : Int) := by omega
      obtain ⟨g, cap, hv, hcells⟩ := HI.out.done (by rw [bitsL_len]; cases wide <;> decide)
      rw [bitsL_len] at hv hcells
      have KOF := Lib.hid (refOf_any g (sizeW wide) cap (bitI (a - b - c)) wr sl (fun k hk => by rw [hcells k hk, bitsL_get _ _ _ hk]) (fun k hk => by have := bitI_in (a - b - c) k; omega))
      rw [bits_all, show (a - b - c) % (2 * topW wide) = subV a b c wide from rfl] at KOF
      subst hv
      have hvw := subV_wf a b c wide
      have hsg := sgnF_in (subV a b c wide) wide
      have KSG := Lib.hid (fun w => refSigns_any (subV a b c wide) wide w hvw.1 hvw.2)
      have ec := sub_c a b c wide a0 a1 b0 b1 hc
      have eo := sub_o a b c wide a0 a1 b0 b1 hc
      have ea := sub_a a b c
      have HFL := Lib.hid (show subF a b c wide = sgnF (subV a b c wide) wide + ifI (subC a b c) 1 + ifI (subA a b c) 16 + ifI (subO a b (subV a b c wide) wide) 2048 from rfl)
      rw [← ec, ← eo, ← ea] at HFL
      have hh := halfF_size (borrow a b c) wide
      have hl := lastOf_size (borrow a b c) c wide
      rw [hh, hl]
      have b1' := borrow_bool a b c (sizeW wide)
      have b2' := borrow_bool a b c (sizeW wide - 1)
      have h4 : 0 ≤ ifI (borrow a b c 4 == 1) 16 ∧ ifI (borrow a b c 4 == 1) 16 ≤ 16 := by unfold ifI; split <;> omega
      have HIB := Lib.hid HI.out.b
      clear ec eo ea hh hl hcells HI KA KB HC HST
      generalize ifI (borrow a b c 4 == 1) 16 = h at h4 HFL ⊢
      generalize borrow a b c (sizeW wide) = CL at b1' HFL ⊢
      generalize borrow a b c (sizeW wide - 1) = LL at b2' HFL ⊢
      generalize sgnF (subV a b c wide) wide = sg at hsg KSG HFL
      obtain ⟨va, hva⟩ : ∃ v, subV a b c wide = v := ⟨_, rfl⟩
      have HVA := Lib.hid hva
      rw [hva] at hvw KOF KSG
      clear hva
      rcases (show CL = 0 ∨ CL = 1 by omega) with rfl | rfl <;> rcases (show LL = 0 ∨ LL = 1 by omega) with rfl | rfl
      all_goals
        go_wp2_with fail
        refine (KS.out _).mono ?_
        rintro e w' ⟨rfl, rfl⟩; dsimp only
        go_wp2_with fail
        refine KOF.out.mono ?_
        rintro e w' ⟨rfl, rfl⟩; dsimp only
        go_wp2_with fail
        refine (KSG.out _).mono ?_
        rintro e w' ⟨rfl, rfl⟩; dsimp only
        go_wp2_with fail
        go_ret2
        refine ⟨ret2_int HVA.out.symm ?_, HIB.out⟩
        rw [HFL.out]
        simp [ifI]
        try omega
end Go.Proofs.YtcglkefaopgjeaaGreatDoor

/- The reference of sums: each, Do: walks. -/
namespace Go.Proofs.YtcglkefaopgjeaaGreatDoor
set_option linter.unusedSimpArgs false
set_option linter.unusedVariables false
open Go.RowKit

def fL (f : Nat → Int) (k : Nat) : List Int := (List.range k).map f
theorem fL_len (f : Nat → Int) (k : Nat) : (fL f k).length = k := by simp [fL]
theorem fL_step (f : Nat → Int) (k : Nat) : fL f k ++ [f k] = fL f (k + 1) := by simp [fL, List.range_succ]
theorem fL_get (f : Nat → Int) (n k : Nat) (h : k < n) : (fL f n).getD k 0 = f k := by
  rw [List.getD_eq_getElem?_getD, fL, List.getElem?_map, List.getElem?_range h]; rfl
def eachF (a b least : Int) (odd : Bool) (k : Nat) : Int := if (if odd then bitI a k + bitI b k = 1 else least ≤ bitI a k + bitI b k) then 1 else 0
theorem eachF_bit (a b least : Int) (odd : Bool) (k : Nat) : eachF a b least odd k = 0 ∨ eachF a b least odd k = 1 := by
  unfold eachF
  split <;> split <;> simp
theorem bit_eq (x : Int) (k : Nat) (f : Int) (hf : f = 0 ∨ f = 1) (h : (x / 2 ^ k % 2 = 1) ↔ f = 1) : f = bitI x k := by
  unfold bitI
  have := bit_two x k
  rcases hf with rfl | rfl
  · rcases this with e | e
    · exact e.symm
    · exact absurd (h.1 e) (by decide)
  · exact (h.2 rfl).symm
theorem each_or (a b : Int) (a0 : 0 ≤ a) (a1 : a < 65536) (b0 : 0 ≤ b) (b1 : b < 65536) : ofBits (eachF a b 1 false) 16 = orW a b := by
  refine ofBits_of _ _ (w_or_lo _ _) (w_or_hi _ _) (fun k hk => bit_eq _ _ _ (eachF_bit _ _ _ _ _) ?_)
  rw [or_bit a b a0 a1 b0 b1]
  have hA := bit_two a k
  have hB := bit_two b k
  unfold eachF bitI
  simp only [Bool.false_eq_true, if_false]
  split <;> simp <;> omega
theorem each_and (a b : Int) (a0 : 0 ≤ a) (a1 : a < 65536) (b0 : 0 ≤ b) (b1 : b < 65536) : ofBits (eachF a b 2 false) 16 = andW a b := by
  refine ofBits_of _ _ (w_and_lo _ _) (w_and_hi _ _) (fun k hk => bit_eq _ _ _ (eachF_bit _ _ _ _ _) ?_)
  rw [and_bit a b a0 a1 b0 b1]
  have hA := bit_two a k
  have hB := bit_two b k
  unfold eachF bitI
  simp only [Bool.false_eq_true, if_false]
  split <;> simp <;> omega
theorem each_xor (a b : Int) (a0 : 0 ≤ a) (a1 : a < 65536) (b0 : 0 ≤ b) (b1 : b < 65536) : ofBits (eachF a b 0 true) 16 = xorW a b := by
  refine ofBits_of _ _ (w_xor_lo _ _) (w_xor_hi _ _) (fun k hk => bit_eq _ _ _ (eachF_bit _ _ _ _ _) ?_)
  rw [xor_bit a b a0 a1 b0 b1]
  have hA := bit_two a k
  have hB := bit_two b k
  unfold eachF bitI
  simp only [if_true]
  split <;> simp <;> omega

set_option maxRecDepth 100000 in
set_option maxHeartbeats 3200000 in
theorem refEach_any (a b least : Int) (odd : Bool) (w : World) (a0 : 0 ≤ a) (a1 : a ≤ 65535) (b0 : 0 ≤ b) (b1 : b ≤ 65535) :
    Calls Tryz.prog 69 #[.int .u16 a, .int .u16 b, .int .i64 least, .bool odd] w fun e w' => e = .returned (.int .u16 (ofBits (eachF a b least odd) 16)) ∧ Below w.heap.size w w' := by
  have KA := Lib.hid (fun k w (hk : k ≤ 16) => refBit_any a (k : Nat) k rfl w a0 a1 (by omega))
  have KB := Lib.hid (fun k w (hk : k ≤ 16) => refBit_any b (k : Nat) k rfl w b0 b1 (by omega))
  have HI0 := Lib.hid (ints_new w)
  have HEF := Lib.hid (fun k => (show eachF a b least odd k = if (if odd then bitI a k + bitI b k = 1 else least ≤ bitI a k + bitI b k) then 1 else 0 from rfl))
  have HBIT := Lib.hid (fun k => eachF_bit a b least odd k)
  generalize eachF a b least odd = f at HEF HBIT ⊢
  go_enter Tryz.func69, Tryz.ntmps69
  go_wp2_with fail
  go_loopw [9, 10] (fun s9 s10 wr => ∃ k : Nat, k ≤ 16 ∧ s10 = .int .i64 k ∧ Ints w wr s9 (fL f k)) (fun _ s10 _ => 16 - (intOf s10).toNat)
  case atStart => exact ⟨0, by omega, rfl, HI0.out⟩
  case round =>
    obtain ⟨k, hk, rfl, hi⟩ := hrel
    have HI := Lib.hid hi
    clear hi HI0
    by_cases hlt : k < 16
    · have c1 : ((k : Nat) : Int) < 16 := by omega
      have hA := bitI_in a k
      have hB := bitI_in b k
      have KA1 := Lib.hid (fun w => KA.out k w (by omega))
      have KB1 := Lib.hid (fun w => KB.out k w (by omega))
      have HF1 := Lib.hid (HEF.out k)
      have HBL := Lib.hid (fL_step f k)
      generalize bitI a k = A at hA KA1 HF1
      generalize bitI b k = B at hB KB1 HF1
      clear KA KB HEF HBIT
      cases odd with
      | true =>
        by_cases h1 : A + B = 1
        · have HF2 := Lib.hid (show f k = 1 by rw [HF1.out]; simp [h1])
          have hb1 : (A + B == 1) = true := by simp [h1]
          have H1 := Lib.hid h1
          clear h1 HF1
          go_wp2_with fail
          refine (KA1.out _).mono ?_
          rintro e w' ⟨rfl, rfl⟩; dsimp only
          go_wp2_with fail
          refine (KB1.out _).mono ?_
          rintro e w' ⟨rfl, rfl⟩; dsimp only
          go_wp2_with (at_builtin; go_loud (refine wpList_pushI rfl _ _ rfl rfl (HI.out.alloc _) ⟨_, 0, none⟩ 1 1 [_] rfl rfl (one_cellI _ _) (by rw [fL_len]; omega) ?_; intro v' w1 HPN)); go_wp2_with fail
          rw [← HF2.out, HBL.out] at HPN
          exact ⟨⟨k + 1, by omega, by go_num, HPN⟩, by simp [intOf]; omega⟩
        · have HF2 := Lib.hid (show f k = 0 by rw [HF1.out]; simp [h1])
          have hb1 : (A + B == 1) = false := by simp [h1]
          clear HF1
          go_wp2_with fail
          refine (KA1.out _).mono ?_
          rintro e w' ⟨rfl, rfl⟩; dsimp only
          go_wp2_with fail
          refine (KB1.out _).mono ?_
          rintro e w' ⟨rfl, rfl⟩; dsimp only
          go_wp2_with (at_builtin; go_loud (refine wpList_pushI rfl _ _ rfl rfl (HI.out.alloc _) ⟨_, 0, none⟩ 1 1 [_] rfl rfl (one_cellI _ _) (by rw [fL_len]; omega) ?_; intro v' w1 HPN)); go_wp2_with fail
          rw [← HF2.out, HBL.out] at HPN
          exact ⟨⟨k + 1, by omega, by go_num, HPN⟩, by simp [intOf]; omega⟩
      | false =>
        by_cases h1 : least ≤ A + B
        · have HF2 := Lib.hid (show f k = 1 by rw [HF1.out]; simp [h1])
          clear HF1
          go_wp2_with fail
          refine (KA1.out _).mono ?_
          rintro e w' ⟨rfl, rfl⟩; dsimp only
          go_wp2_with fail
          refine (KB1.out _).mono ?_
          rintro e w' ⟨rfl, rfl⟩; dsimp only
          go_wp2_with (at_builtin; go_loud (refine wpList_pushI rfl _ _ rfl rfl (HI.out.alloc _) ⟨_, 0, none⟩ 1 1 [_] rfl rfl (one_cellI _ _) (by rw [fL_len]; omega) ?_; intro v' w1 HPN)); go_wp2_with fail
          rw [← HF2.out, HBL.out] at HPN
          exact ⟨⟨k + 1, by omega, by go_num, HPN⟩, by simp [intOf]; omega⟩
        · have HF2 := Lib.hid (show f k = 0 by rw [HF1.out]; simp; omega)
          clear HF1
          go_wp2_with fail
          refine (KA1.out _).mono ?_
          rintro e w' ⟨rfl, rfl⟩; dsimp only
          go_wp2_with fail
          refine (KB1.out _).mono ?_
          rintro e w' ⟨rfl, rfl⟩; dsimp only
          go_wp2_with (at_builtin; go_loud (refine wpList_pushI rfl _ _ rfl rfl (HI.out.alloc _) ⟨_, 0, none⟩ 1 1 [_] rfl rfl (one_cellI _ _) (by rw [fL_len]; omega) ?_; intro v' w1 HPN)); go_wp2_with fail
          rw [← HF2.out, HBL.out] at HPN
          exact ⟨⟨k + 1, by omega, by go_num, HPN⟩, by simp [intOf]; omega⟩
    · obtain rfl : k = 16 := by omega
      obtain ⟨g, cap, hv, hcells⟩ := HI.out.done (by rw [fL_len]; decide)
      rw [fL_len] at hv hcells
      have KOF := Lib.hid (refOf_any g 16 cap f wr (by decide) (fun k hk => by rw [hcells k hk, fL_get _ _ _ hk]) (fun k hk => HBIT.out k))
      subst hv
      have HIB := Lib.hid HI.out.b
      clear hcells HI KA KB HEF HBIT
      go_wp2_with fail
      refine KOF.out.mono ?_
      rintro e w' ⟨rfl, rfl⟩; dsimp only
      go_wp2_with fail
      go_ret
      exact ⟨rfl, HIB.out⟩
end Go.Proofs.YtcglkefaopgjeaaGreatDoor

/- The reference of sums: Do: walk: it comes to what the program's Do comes to. -/
namespace Go.Proofs.YtcglkefaopgjeaaGreatDoor
set_option linter.unusedSimpArgs false
set_option linter.unusedVariables false
open Go.RowKit

theorem or_in (x y : Int) (wide : Bool) (x0 : 0 ≤ x) (x1 : x < 2 * topW wide) (y0 : 0 ≤ y) (y1 : y < 2 * topW wide) : 0 ≤ orW x y ∧ orW x y < 2 * topW wide := by
  refine ⟨w_or_lo _ _, ?_⟩
  obtain ⟨n, rfl⟩ := Int.eq_ofNat_of_zero_le x0
  obtain ⟨k, rfl⟩ := Int.eq_ofNat_of_zero_le y0
  have tl := top_le wide
  rw [show orW (n : Int) (k : Int) = ((n ||| k : Nat) : Int) from u16_or_nat n k (by omega) (by omega)]
  cases wide
  · have := Nat.or_lt_two_pow (n := 8) (show n < 2 ^ 8 by simp [topW] at x1; omega) (show k < 2 ^ 8 by simp [topW] at y1; omega)
    simp [topW]; omega
  · have := Nat.or_lt_two_pow (n := 16) (show n < 2 ^ 16 by simp [topW] at x1; omega) (show k < 2 ^ 16 by simp [topW] at y1; omega)
    simp [topW]; omega
theorem xor_in (x y : Int) (wide : Bool) (x0 : 0 ≤ x) (x1 : x < 2 * topW wide) (y0 : 0 ≤ y) (y1 : y < 2 * topW wide) : 0 ≤ xorW x y ∧ xorW x y < 2 * topW wide := by
  refine ⟨w_xor_lo _ _, ?_⟩
  obtain ⟨n, rfl⟩ := Int.eq_ofNat_of_zero_le x0
  obtain ⟨k, rfl⟩ := Int.eq_ofNat_of_zero_le y0
  have tl := top_le wide
  rw [show xorW (n : Int) (k : Int) = ((n ^^^ k : Nat) : Int) from u16_xor_nat n k (by omega) (by omega)]
  cases wide
  · have := Nat.xor_lt_two_pow (n := 8) (show n < 2 ^ 8 by simp [topW] at x1; omega) (show k < 2 ^ 8 by simp [topW] at y1; omega)
    simp [topW]; omega
  · have := Nat.xor_lt_two_pow (n := 16) (show n < 2 ^ 16 by simp [topW] at x1; omega) (show k < 2 ^ 16 by simp [topW] at y1; omega)
    simp [topW]; omega
theorem and_in (x y : Int) (wide : Bool) (x0 : 0 ≤ x) (x1 : x < 2 * topW wide) (y0 : 0 ≤ y) (y1 : y < 2 * topW wide) : 0 ≤ andW x y ∧ andW x y < 2 * topW wide := by
  refine ⟨w_and_lo _ _, ?_⟩
  obtain ⟨n, rfl⟩ := Int.eq_ofNat_of_zero_le x0
  obtain ⟨k, rfl⟩ := Int.eq_ofNat_of_zero_le y0
  have tl := top_le wide
  rw [show andW (n : Int) (k : Int) = ((n &&& k : Nat) : Int) from u16_and_nat n k (by omega) (by omega)]
  have := Nat.and_le_left (n := n) (m := k)
  omega

set_option maxRecDepth 100000 in
set_option maxHeartbeats 800000 in
theorem refDo_1 (a b : Int) (carry wide : Bool) (w : World) (a0 : 0 ≤ a) (a1 : a ≤ 65535) (b0 : 0 ≤ b) (b1 : b ≤ 65535) :
    Calls Tryz.prog 24 #[.int .i64 1, .int .u16 a, .int .u16 b, .bool carry, .bool wide] w fun e w' => e = .returned (.tuple #[.int .u16 (doV 1 (cutW a wide) (cutW b wide) (ifI carry 1) wide), .int .u16 (doF 1 (cutW a wide) (cutW b wide) (ifI carry 1) wide), .bool true]) ∧ Below w.heap.size w w' := by
  have ha := cut_in a wide a0 a1
  have hb := cut_in b wide b0 b1
  have hc := ifI_in carry
  have KA := Lib.hid (fun w => refCut_any a wide w a0 a1)
  have KB := Lib.hid (fun w => refCut_any b wide w b0 b1)
  generalize cutW a wide = x at ha KA ⊢
  generalize cutW b wide = y at hb KB ⊢
  obtain ⟨c, hcc⟩ : ∃ c, ifI carry 1 = c := ⟨_, rfl⟩
  rw [hcc] at hc ⊢
  have HV := Lib.hid (show doV 1 x y c wide = addV x y 0 wide from rfl)
  have HF := Lib.hid (show doF 1 x y c wide = addF x y 0 wide from rfl)
  have K := Lib.hid (fun w => refAdd_any x y 0 wide w ha.1 ha.2 hb.1 hb.2 (by omega))
  cases carry
  all_goals
    obtain rfl := hcc
    go_enter Tryz.func24, Tryz.ntmps24
    go_wp2_with fail
    refine (KA.out _).mono ?_
    rintro e w' ⟨rfl, rfl⟩; dsimp only
    go_wp2_with fail
    refine (KB.out _).mono ?_
    rintro e w' ⟨rfl, rfl⟩; dsimp only
    go_wp2_with fail
    refine (K.out _).mono ?_
    rintro e w1 ⟨rfl, hb1⟩; dsimp only
    have HB1 := Lib.hid hb1
    clear hb1
    go_wp2_with fail
    go_ret3
    rw [HV.out, HF.out]
    exact ⟨rfl, HB1.out⟩

set_option maxRecDepth 100000 in
set_option maxHeartbeats 800000 in
theorem refDo_3 (a b : Int) (carry wide : Bool) (w : World) (a0 : 0 ≤ a) (a1 : a ≤ 65535) (b0 : 0 ≤ b) (b1 : b ≤ 65535) :
    Calls Tryz.prog 24 #[.int .i64 3, .int .u16 a, .int .u16 b, .bool carry, .bool wide] w fun e w' => e = .returned (.tuple #[.int .u16 (doV 3 (cutW a wide) (cutW b wide) (ifI carry 1) wide), .int .u16 (doF 3 (cutW a wide) (cutW b wide) (ifI carry 1) wide), .bool true]) ∧ Below w.heap.size w w' := by
  have ha := cut_in a wide a0 a1
  have hb := cut_in b wide b0 b1
  have hc := ifI_in carry
  have KA := Lib.hid (fun w => refCut_any a wide w a0 a1)
  have KB := Lib.hid (fun w => refCut_any b wide w b0 b1)
  generalize cutW a wide = x at ha KA ⊢
  generalize cutW b wide = y at hb KB ⊢
  obtain ⟨c, hcc⟩ : ∃ c, ifI carry 1 = c := ⟨_, rfl⟩
  rw [hcc] at hc ⊢
  have HV := Lib.hid (show doV 3 x y c wide = addV x y c wide from rfl)
  have HF := Lib.hid (show doF 3 x y c wide = addF x y c wide from rfl)
  have K := Lib.hid (fun w => refAdd_any x y c wide w ha.1 ha.2 hb.1 hb.2 hc)
  cases carry
  all_goals
    obtain rfl := hcc
    go_enter Tryz.func24, Tryz.ntmps24
    go_wp2_with fail
    refine (KA.out _).mono ?_
    rintro e w' ⟨rfl, rfl⟩; dsimp only
    go_wp2_with fail
    refine (KB.out _).mono ?_
    rintro e w' ⟨rfl, rfl⟩; dsimp only
    go_wp2_with fail
    refine (K.out _).mono ?_
    rintro e w1 ⟨rfl, hb1⟩; dsimp only
    have HB1 := Lib.hid hb1
    clear hb1
    go_wp2_with fail
    go_ret3
    rw [HV.out, HF.out]
    exact ⟨rfl, HB1.out⟩

set_option maxRecDepth 100000 in
set_option maxHeartbeats 800000 in
theorem refDo_6 (a b : Int) (carry wide : Bool) (w : World) (a0 : 0 ≤ a) (a1 : a ≤ 65535) (b0 : 0 ≤ b) (b1 : b ≤ 65535) :
    Calls Tryz.prog 24 #[.int .i64 6, .int .u16 a, .int .u16 b, .bool carry, .bool wide] w fun e w' => e = .returned (.tuple #[.int .u16 (doV 6 (cutW a wide) (cutW b wide) (ifI carry 1) wide), .int .u16 (doF 6 (cutW a wide) (cutW b wide) (ifI carry 1) wide), .bool true]) ∧ Below w.heap.size w w' := by
  have ha := cut_in a wide a0 a1
  have hb := cut_in b wide b0 b1
  have hc := ifI_in carry
  have KA := Lib.hid (fun w => refCut_any a wide w a0 a1)
  have KB := Lib.hid (fun w => refCut_any b wide w b0 b1)
  generalize cutW a wide = x at ha KA ⊢
  generalize cutW b wide = y at hb KB ⊢
  obtain ⟨c, hcc⟩ : ∃ c, ifI carry 1 = c := ⟨_, rfl⟩
  rw [hcc] at hc ⊢
  have HV := Lib.hid (show doV 6 x y c wide = subV x y 0 wide from rfl)
  have HF := Lib.hid (show doF 6 x y c wide = subF x y 0 wide from rfl)
  have K := Lib.hid (fun w => refSub_any x y 0 wide w ha.1 ha.2 hb.1 hb.2 (by omega))
  cases carry
  all_goals
    obtain rfl := hcc
    go_enter Tryz.func24, Tryz.ntmps24
    go_wp2_with fail
    refine (KA.out _).mono ?_
    rintro e w' ⟨rfl, rfl⟩; dsimp only
    go_wp2_with fail
    refine (KB.out _).mono ?_
    rintro e w' ⟨rfl, rfl⟩; dsimp only
    go_wp2_with fail
    refine (K.out _).mono ?_
    rintro e w1 ⟨rfl, hb1⟩; dsimp only
    have HB1 := Lib.hid hb1
    clear hb1
    go_wp2_with fail
    go_ret3
    rw [HV.out, HF.out]
    exact ⟨rfl, HB1.out⟩

set_option maxRecDepth 100000 in
set_option maxHeartbeats 800000 in
theorem refDo_8 (a b : Int) (carry wide : Bool) (w : World) (a0 : 0 ≤ a) (a1 : a ≤ 65535) (b0 : 0 ≤ b) (b1 : b ≤ 65535) :
    Calls Tryz.prog 24 #[.int .i64 8, .int .u16 a, .int .u16 b, .bool carry, .bool wide] w fun e w' => e = .returned (.tuple #[.int .u16 (doV 8 (cutW a wide) (cutW b wide) (ifI carry 1) wide), .int .u16 (doF 8 (cutW a wide) (cutW b wide) (ifI carry 1) wide), .bool true]) ∧ Below w.heap.size w w' := by
  have ha := cut_in a wide a0 a1
  have hb := cut_in b wide b0 b1
  have hc := ifI_in carry
  have KA := Lib.hid (fun w => refCut_any a wide w a0 a1)
  have KB := Lib.hid (fun w => refCut_any b wide w b0 b1)
  generalize cutW a wide = x at ha KA ⊢
  generalize cutW b wide = y at hb KB ⊢
  obtain ⟨c, hcc⟩ : ∃ c, ifI carry 1 = c := ⟨_, rfl⟩
  rw [hcc] at hc ⊢
  have HV := Lib.hid (show doV 8 x y c wide = subV x y 0 wide from rfl)
  have HF := Lib.hid (show doF 8 x y c wide = subF x y 0 wide from rfl)
  have K := Lib.hid (fun w => refSub_any x y 0 wide w ha.1 ha.2 hb.1 hb.2 (by omega))
  cases carry
  all_goals
    obtain rfl := hcc
    go_enter Tryz.func24, Tryz.ntmps24
    go_wp2_with fail
    refine (KA.out _).mono ?_
    rintro e w' ⟨rfl, rfl⟩; dsimp only
    go_wp2_with fail
    refine (KB.out _).mono ?_
    rintro e w' ⟨rfl, rfl⟩; dsimp only
    go_wp2_with fail
    refine (K.out _).mono ?_
    rintro e w1 ⟨rfl, hb1⟩; dsimp only
    have HB1 := Lib.hid hb1
    clear hb1
    go_wp2_with fail
    go_ret3
    rw [HV.out, HF.out]
    exact ⟨rfl, HB1.out⟩

set_option maxRecDepth 100000 in
set_option maxHeartbeats 800000 in
theorem refDo_4 (a b : Int) (carry wide : Bool) (w : World) (a0 : 0 ≤ a) (a1 : a ≤ 65535) (b0 : 0 ≤ b) (b1 : b ≤ 65535) :
    Calls Tryz.prog 24 #[.int .i64 4, .int .u16 a, .int .u16 b, .bool carry, .bool wide] w fun e w' => e = .returned (.tuple #[.int .u16 (doV 4 (cutW a wide) (cutW b wide) (ifI carry 1) wide), .int .u16 (doF 4 (cutW a wide) (cutW b wide) (ifI carry 1) wide), .bool true]) ∧ Below w.heap.size w w' := by
  have ha := cut_in a wide a0 a1
  have hb := cut_in b wide b0 b1
  have hc := ifI_in carry
  have KA := Lib.hid (fun w => refCut_any a wide w a0 a1)
  have KB := Lib.hid (fun w => refCut_any b wide w b0 b1)
  generalize cutW a wide = x at ha KA ⊢
  generalize cutW b wide = y at hb KB ⊢
  obtain ⟨c, hcc⟩ : ∃ c, ifI carry 1 = c := ⟨_, rfl⟩
  rw [hcc] at hc ⊢
  have HV := Lib.hid (show doV 4 x y c wide = subV x y c wide from rfl)
  have HF := Lib.hid (show doF 4 x y c wide = subF x y c wide from rfl)
  have K := Lib.hid (fun w => refSub_any x y c wide w ha.1 ha.2 hb.1 hb.2 hc)
  cases carry
  all_goals
    obtain rfl := hcc
    go_enter Tryz.func24, Tryz.ntmps24
    go_wp2_with fail
    refine (KA.out _).mono ?_
    rintro e w' ⟨rfl, rfl⟩; dsimp only
    go_wp2_with fail
    refine (KB.out _).mono ?_
    rintro e w' ⟨rfl, rfl⟩; dsimp only
    go_wp2_with fail
    refine (K.out _).mono ?_
    rintro e w1 ⟨rfl, hb1⟩; dsimp only
    have HB1 := Lib.hid hb1
    clear hb1
    go_wp2_with fail
    go_ret3
    rw [HV.out, HF.out]
    exact ⟨rfl, HB1.out⟩

set_option maxRecDepth 100000 in
set_option maxHeartbeats 800000 in
theorem refDo_2 (a b : Int) (carry wide : Bool) (w : World) (a0 : 0 ≤ a) (a1 : a ≤ 65535) (b0 : 0 ≤ b) (b1 : b ≤ 65535) :
    Calls Tryz.prog 24 #[.int .i64 2, .int .u16 a, .int .u16 b, .bool carry, .bool wide] w fun e w' => e = .returned (.tuple #[.int .u16 (doV 2 (cutW a wide) (cutW b wide) (ifI carry 1) wide), .int .u16 (doF 2 (cutW a wide) (cutW b wide) (ifI carry 1) wide), .bool true]) ∧ Below w.heap.size w w' := by
  have ha := cut_in a wide a0 a1
  have hb := cut_in b wide b0 b1
  have hc := ifI_in carry
  have KA := Lib.hid (fun w => refCut_any a wide w a0 a1)
  have KB := Lib.hid (fun w => refCut_any b wide w b0 b1)
  generalize cutW a wide = x at ha KA ⊢
  generalize cutW b wide = y at hb KB ⊢
  obtain ⟨c, hcc⟩ : ∃ c, ifI carry 1 = c := ⟨_, rfl⟩
  rw [hcc] at hc ⊢
  have tl := top_le wide
  have hvi := or_in x y wide ha.1 ha.2 hb.1 hb.2
  have HV := Lib.hid (show doV 2 x y c wide = orW x y from rfl)
  have HF := Lib.hid (show doF 2 x y c wide = sgnF (orW x y) wide from rfl)
  have K := Lib.hid (fun w => refEach_any x y 1 false w ha.1 (by omega) hb.1 (by omega))
  rw [each_or x y ha.1 (by omega) hb.1 (by omega)] at K
  have KG := Lib.hid (fun w => refSigns_any (orW x y) wide w hvi.1 hvi.2)
  cases carry
  all_goals
    obtain rfl := hcc
    go_enter Tryz.func24, Tryz.ntmps24
    go_wp2_with fail
    refine (KA.out _).mono ?_
    rintro e w' ⟨rfl, rfl⟩; dsimp only
    go_wp2_with fail
    refine (KB.out _).mono ?_
    rintro e w' ⟨rfl, rfl⟩; dsimp only
    go_wp2_with fail
    refine (K.out _).mono ?_
    rintro e w1 ⟨rfl, hb1⟩; dsimp only
    have HB1 := Lib.hid hb1
    clear hb1
    go_wp2_with fail
    refine (KG.out _).mono ?_
    rintro e w' ⟨rfl, rfl⟩; dsimp only
    go_wp2_with fail
    go_ret3
    rw [HV.out, HF.out]
    exact ⟨rfl, HB1.out⟩

set_option maxRecDepth 100000 in
set_option maxHeartbeats 800000 in
theorem refDo_5 (a b : Int) (carry wide : Bool) (w : World) (a0 : 0 ≤ a) (a1 : a ≤ 65535) (b0 : 0 ≤ b) (b1 : b ≤ 65535) :
    Calls Tryz.prog 24 #[.int .i64 5, .int .u16 a, .int .u16 b, .bool carry, .bool wide] w fun e w' => e = .returned (.tuple #[.int .u16 (doV 5 (cutW a wide) (cutW b wide) (ifI carry 1) wide), .int .u16 (doF 5 (cutW a wide) (cutW b wide) (ifI carry 1) wide), .bool true]) ∧ Below w.heap.size w w' := by
  have ha := cut_in a wide a0 a1
  have hb := cut_in b wide b0 b1
  have hc := ifI_in carry
  have KA := Lib.hid (fun w => refCut_any a wide w a0 a1)
  have KB := Lib.hid (fun w => refCut_any b wide w b0 b1)
  generalize cutW a wide = x at ha KA ⊢
  generalize cutW b wide = y at hb KB ⊢
  obtain ⟨c, hcc⟩ : ∃ c, ifI carry 1 = c := ⟨_, rfl⟩
  rw [hcc] at hc ⊢
  have tl := top_le wide
  have hvi := and_in x y wide ha.1 ha.2 hb.1 hb.2
  have HV := Lib.hid (show doV 5 x y c wide = andW x y from rfl)
  have HF := Lib.hid (show doF 5 x y c wide = sgnF (andW x y) wide from rfl)
  have K := Lib.hid (fun w => refEach_any x y 2 false w ha.1 (by omega) hb.1 (by omega))
  rw [each_and x y ha.1 (by omega) hb.1 (by omega)] at K
  have KG := Lib.hid (fun w => refSigns_any (andW x y) wide w hvi.1 hvi.2)
  cases carry
  all_goals
    obtain rfl := hcc
    go_enter Tryz.func24, Tryz.ntmps24
    go_wp2_with fail
    refine (KA.out _).mono ?_
    rintro e w' ⟨rfl, rfl⟩; dsimp only
    go_wp2_with fail
    refine (KB.out _).mono ?_
    rintro e w' ⟨rfl, rfl⟩; dsimp only
    go_wp2_with fail
    refine (K.out _).mono ?_
    rintro e w1 ⟨rfl, hb1⟩; dsimp only
    have HB1 := Lib.hid hb1
    clear hb1
    go_wp2_with fail
    refine (KG.out _).mono ?_
    rintro e w' ⟨rfl, rfl⟩; dsimp only
    go_wp2_with fail
    go_ret3
    rw [HV.out, HF.out]
    exact ⟨rfl, HB1.out⟩

set_option maxRecDepth 100000 in
set_option maxHeartbeats 800000 in
theorem refDo_33 (a b : Int) (carry wide : Bool) (w : World) (a0 : 0 ≤ a) (a1 : a ≤ 65535) (b0 : 0 ≤ b) (b1 : b ≤ 65535) :
    Calls Tryz.prog 24 #[.int .i64 33, .int .u16 a, .int .u16 b, .bool carry, .bool wide] w fun e w' => e = .returned (.tuple #[.int .u16 (doV 33 (cutW a wide) (cutW b wide) (ifI carry 1) wide), .int .u16 (doF 33 (cutW a wide) (cutW b wide) (ifI carry 1) wide), .bool true]) ∧ Below w.heap.size w w' := by
  have ha := cut_in a wide a0 a1
  have hb := cut_in b wide b0 b1
  have hc := ifI_in carry
  have KA := Lib.hid (fun w => refCut_any a wide w a0 a1)
  have KB := Lib.hid (fun w => refCut_any b wide w b0 b1)
  generalize cutW a wide = x at ha KA ⊢
  generalize cutW b wide = y at hb KB ⊢
  obtain ⟨c, hcc⟩ : ∃ c, ifI carry 1 = c := ⟨_, rfl⟩
  rw [hcc] at hc ⊢
  have tl := top_le wide
  have hvi := and_in x y wide ha.1 ha.2 hb.1 hb.2
  have HV := Lib.hid (show doV 33 x y c wide = andW x y from rfl)
  have HF := Lib.hid (show doF 33 x y c wide = sgnF (andW x y) wide from rfl)
  have K := Lib.hid (fun w => refEach_any x y 2 false w ha.1 (by omega) hb.1 (by omega))
  rw [each_and x y ha.1 (by omega) hb.1 (by omega)] at K
  have KG := Lib.hid (fun w => refSigns_any (andW x y) wide w hvi.1 hvi.2)
  cases carry
  all_goals
    obtain rfl := hcc
    go_enter Tryz.func24, Tryz.ntmps24
    go_wp2_with fail
    refine (KA.out _).mono ?_
    rintro e w' ⟨rfl, rfl⟩; dsimp only
    go_wp2_with fail
    refine (KB.out _).mono ?_
    rintro e w' ⟨rfl, rfl⟩; dsimp only
    go_wp2_with fail
    refine (K.out _).mono ?_
    rintro e w1 ⟨rfl, hb1⟩; dsimp only
    have HB1 := Lib.hid hb1
    clear hb1
    go_wp2_with fail
    refine (KG.out _).mono ?_
    rintro e w' ⟨rfl, rfl⟩; dsimp only
    go_wp2_with fail
    go_ret3
    rw [HV.out, HF.out]
    exact ⟨rfl, HB1.out⟩

set_option maxRecDepth 100000 in
set_option maxHeartbeats 800000 in
theorem refDo_7 (a b : Int) (carry wide : Bool) (w : World) (a0 : 0 ≤ a) (a1 : a ≤ 65535) (b0 : 0 ≤ b) (b1 : b ≤ 65535) :
    Calls Tryz.prog 24 #[.int .i64 7, .int .u16 a, .int .u16 b, .bool carry, .bool wide] w fun e w' => e = .returned (.tuple #[.int .u16 (doV 7 (cutW a wide) (cutW b wide) (ifI carry 1) wide), .int .u16 (doF 7 (cutW a wide) (cutW b wide) (ifI carry 1) wide), .bool true]) ∧ Below w.heap.size w w' := by
  have ha := cut_in a wide a0 a1
  have hb := cut_in b wide b0 b1
  have hc := ifI_in carry
  have KA := Lib.hid (fun w => refCut_any a wide w a0 a1)
  have KB := Lib.hid (fun w => refCut_any b wide w b0 b1)
  generalize cutW a wide = x at ha KA ⊢
  generalize cutW b wide = y at hb KB ⊢
  obtain ⟨c, hcc⟩ : ∃ c, ifI carry 1 = c := ⟨_, rfl⟩
  rw [hcc] at hc ⊢
  have tl := top_le wide
  have hvi := xor_in x y wide ha.1 ha.2 hb.1 hb.2
  have HV := Lib.hid (show doV 7 x y c wide = xorW x y from rfl)
  have HF := Lib.hid (show doF 7 x y c wide = sgnF (xorW x y) wide from rfl)
  have K := Lib.hid (fun w => refEach_any x y 0 true w ha.1 (by omega) hb.1 (by omega))
  rw [each_xor x y ha.1 (by omega) hb.1 (by omega)] at K
  have KG := Lib.hid (fun w => refSigns_any (xorW x y) wide w hvi.1 hvi.2)
  cases carry
  all_goals
    obtain rfl := hcc
    go_enter Tryz.func24, Tryz.ntmps24
    go_wp2_with fail
    refine (KA.out _).mono ?_
    rintro e w' ⟨rfl, rfl⟩; dsimp only
    go_wp2_with fail
    refine (KB.out _).mono ?_
    rintro e w' ⟨rfl, rfl⟩; dsimp only
    go_wp2_with fail
    refine (K.out _).mono ?_
    rintro e w1 ⟨rfl, hb1⟩; dsimp only
    have HB1 := Lib.hid hb1
    clear hb1
    go_wp2_with fail
    refine (KG.out _).mono ?_
    rintro e w' ⟨rfl, rfl⟩; dsimp only
    go_wp2_with fail
    go_ret3
    rw [HV.out, HF.out]
    exact ⟨rfl, HB1.out⟩
theorem refDo_any (name a b : Int) (carry wide : Bool) (w : World) (hn : (1 ≤ name ∧ name ≤ 8) ∨ name = 33) (a0 : 0 ≤ a) (a1 : a ≤ 65535) (b0 : 0 ≤ b) (b1 : b ≤ 65535) :
    Calls Tryz.prog 24 #[.int .i64 name, .int .u16 a, .int .u16 b, .bool carry, .bool wide] w fun e w' => e = .returned (.tuple #[.int .u16 (doV name (cutW a wide) (cutW b wide) (ifI carry 1) wide), .int .u16 (doF name (cutW a wide) (cutW b wide) (ifI carry 1) wide), .bool true]) ∧ Below w.heap.size w w' := by
  have hc : name = 1 ∨ name = 2 ∨ name = 3 ∨ name = 4 ∨ name = 5 ∨ name = 6 ∨ name = 7 ∨ name = 8 ∨ name = 33 := by omega
  rcases hc with rfl | rfl | rfl | rfl | rfl | rfl | rfl | rfl | rfl
  · exact refDo_1 a b carry wide w a0 a1 b0 b1
  · exact refDo_2 a b carry wide w a0 a1 b0 b1
  · exact refDo_3 a b carry wide w a0 a1 b0 b1
  · exact refDo_4 a b carry wide w a0 a1 b0 b1
  · exact refDo_5 a b carry wide w a0 a1 b0 b1
  · exact refDo_6 a b carry wide w a0 a1 b0 b1
  · exact refDo_7 a b carry wide w a0 a1 b0 b1
  · exact refDo_8 a b carry wide w a0 a1 b0 b1
  · exact refDo_33 a b carry wide w a0 a1 b0 b1
end Go.Proofs.YtcglkefaopgjeaaGreatDoor

/- What the law CpuSums wants of rows, machines and numbers; the step: plain laws. -/
namespace Go.Proofs.YtcglkefaopgjeaaGreatDoor
set_option linter.unusedSimpArgs false
set_option linter.unusedVariables false
open Go.RowKit

def sumOk (r : IRow) : Bool := !((decide (1 ≤ r.name) && decide (r.name ≤ 8)) || r.name == 33) || ((r.a == 1 || r.a == 2 || r.a == 3 || r.a == 4 || r.a == 14 || r.a == 16) && (r.b == 1 || r.b == 2 || r.b == 3 || r.b == 4 || r.b == 6 || r.b == 7 || r.b == 8))
theorem sum_ok : ∀ op : Fin 256, ∀ reg : Fin 8, (match isaOf (op.val : Nat) (reg.val : Nat) with | none => true | some r => sumOk r) = true := by decide +kernel
theorem sum_row {op reg : Int} {r : IRow} (h0 : 0 ≤ op) (h1 : op ≤ 255) (g0 : 0 ≤ reg) (g1 : reg ≤ 7) (h : instRow op reg = some r) (n : (1 ≤ r.name ∧ r.name ≤ 8) ∨ r.name = 33) :
    (r.a = 1 ∨ r.a = 2 ∨ r.a = 3 ∨ r.a = 4 ∨ r.a = 14 ∨ r.a = 16) ∧ (r.b = 1 ∨ r.b = 2 ∨ r.b = 3 ∨ r.b = 4 ∨ r.b = 6 ∨ r.b = 7 ∨ r.b = 8) := by
  obtain ⟨a, rfl⟩ := Int.eq_ofNat_of_zero_le h0
  obtain ⟨b, rfl⟩ := Int.eq_ofNat_of_zero_le g0
  have := sum_ok ⟨a, by omega⟩ ⟨b, by omega⟩
  rw [show ((⟨a, by omega⟩ : Fin 256).val) = a from rfl, show ((⟨b, by omega⟩ : Fin 8).val) = b from rfl, (instRow_some h).2] at this
  have hn : ((decide (1 ≤ r.name) && decide (r.name ≤ 8)) || r.name == 33) = true := by
    rcases n with ⟨x, y⟩ | x
    · simp [x, y]
    · simp [x]
  simp only [sumOk, hn, Bool.not_true, Bool.false_or, Bool.and_eq_true, Bool.or_eq_true, beq_iff_eq] at this
  omega
theorem row_add (g : Int) (h0 : 0 ≤ g) (h1 : g ≤ 7) : instRow 0 g = some ⟨1, 1, 3, true⟩ := by
  rcases (show g = 0 ∨ g = 1 ∨ g = 2 ∨ g = 3 ∨ g = 4 ∨ g = 5 ∨ g = 6 ∨ g = 7 by omega) with rfl | rfl | rfl | rfl | rfl | rfl | rfl | rfl <;> decide
theorem row_test (g : Int) (h0 : 0 ≤ g) (h1 : g ≤ 7) : instRow 132 g = some ⟨33, 1, 3, true⟩ := by
  rcases (show g = 0 ∨ g = 1 ∨ g = 2 ∨ g = 3 ∨ g = 4 ∨ g = 5 ∨ g = 6 ∨ g = 7 by omega) with rfl | rfl | rfl | rfl | rfl | rfl | rfl | rfl <;> decide
theorem sum_there (x : Inst) (hx : x.kinds) : ∃ K N : Nat, K < 256 ∧ N < manyOf (tryOp x K) ∧ tryOk x 1 8 K N = true := by
  have ht : 0 ≤ tryReg x 0 ∧ tryReg x 0 ≤ 7 := by unfold tryReg; omega
  refine ⟨(((0 : Nat) - x.op : Int) % 256).toNat, 0, by omega, ?_, ?_⟩
  · rw [tryOp_at x hx.op.1 hx.op.2 0 (by decide)]
    decide
  · exact try_row x 1 8 _ _ 0 (tryReg x 0) (tryOp_at x hx.op.1 hx.op.2 0 (by decide)) rfl ⟨1, 1, 3, true⟩ (row_add _ ht.1 ht.2) (fun h => by cases h) (by decide) (by decide) (by decide) (by decide) (by decide)
theorem test_there (x : Inst) (hx : x.kinds) : ∃ K N : Nat, K < 256 ∧ N < manyOf (tryOp x K) ∧ tryOk x 33 33 K N = true := by
  have ht : 0 ≤ tryReg x 0 ∧ tryReg x 0 ≤ 7 := by unfold tryReg; omega
  refine ⟨(((132 : Nat) - x.op : Int) % 256).toNat, 0, by omega, ?_, ?_⟩
  · rw [tryOp_at x hx.op.1 hx.op.2 132 (by decide)]
    decide
  · exact try_row x 33 33 _ _ 132 (tryReg x 0) (tryOp_at x hx.op.1 hx.op.2 132 (by decide)) rfl ⟨33, 1, 3, true⟩ (row_test _ ht.1 ht.2) (fun h => by cases h) (by decide) (by decide) (by decide) (by decide) (by decide)
theorem reps_sum (n : Int) (h : (1 ≤ n ∧ n ≤ 8) ∨ n = 33) : repsOf n = 0 ∧ isFlow n = false := by
  have hc : n = 1 ∨ n = 2 ∨ n = 3 ∨ n = 4 ∨ n = 5 ∨ n = 6 ∨ n = 7 ∨ n = 8 ∨ n = 33 := by omega
  rcases hc with rfl | rfl | rfl | rfl | rfl | rfl | rfl | rfl | rfl <;> exact ⟨by decide, by decide⟩

/-- What is written into an operand of a machine as begin makes it: state, flags, segments stay; it is read there again. -/
theorem Easy.setRegByte {m : Mach} (h : Easy m) (n v : Int) : m.setRegByte n v = m.setR (m.r.putByte n (v % 256)) := by unfold Mach.setRegByte; rw [h.byteC, if_pos rfl]
theorem Easy.setMemByte {m : Mach} (h : Easy m) (n : Int) (h0 : 0 ≤ n) (h1 : n ≤ 3) (off v : Int) : m.setMemByte (m.r.seg n) off v = m.putMemByte (m.r.seg n) off v := by
  obtain ⟨s, e, s0, s1⟩ := h.seg n h0 h1
  unfold Mach.setMemByte Mach.setByteOk
  rw [e, h.owns s s0 s1, h.tag]
  rfl
theorem Easy.setWord {m : Mach} (h : Easy m) (n : Int) (h0 : 0 ≤ n) (h1 : n ≤ 3) (off v : Int) : m.setWord (m.r.seg n) off ⟨v, false⟩ = m.putWord (m.r.seg n) off ⟨v, false⟩ := by
  obtain ⟨s, e, s0, s1⟩ := h.seg n h0 h1
  unfold Mach.setWord Mach.setWordOk
  rw [e, h.owns s s0 s1]
  have hc : m.wordC ⟨s, true⟩ off = true := by unfold Mach.wordC mwordC; rw [h.tag]; simp
  rw [hc]
  rfl
/-- Registers differ in those that are no segments alone. -/
structure SameS (r r2 : Regs) : Prop where
  s0 : r2.s0 = r.s0
  s1 : r2.s1 = r.s1
  s2 : r2.s2 = r.s2
  s3 : r2.s3 = r.s3
  f : r2.f = r.f
theorem put_same (r : Regs) (n : Int) (v : V) : SameS r (r.put n v) := by
  unfold Regs.put
  repeat' split
  all_goals exact ⟨rfl, rfl, rfl, rfl, rfl⟩
theorem putByte_same (r : Regs) (n b : Int) : SameS r (r.putByte n b) := by
  unfold Regs.putByte
  split
  · exact put_same _ _ _
  · exact ⟨rfl, rfl, rfl, rfl, rfl⟩
theorem SameS.seg {r r2 : Regs} (h : SameS r r2) (n : Int) : r2.seg n = r.seg n := by unfold Regs.seg; rw [h.s0, h.s1, h.s2, h.s3]
def opA (a : Int) : Prop := a = 1 ∨ a = 2 ∨ a = 3 ∨ a = 4 ∨ a = 14 ∨ a = 16
theorem Easy.putV {m : Mach} (h : Easy m) (i : Inst) (a : Int) (ha : opA a) (v : Int) :
    (m.putV i a ⟨v, false⟩).state = m.state ∧ SameS m.r (m.putV i a ⟨v, false⟩).r := by
  have d := defSeg_in i
  unfold Mach.putV Mach.placeS
  rw [h.placeM]
  rcases ha with rfl | rfl | rfl | rfl | rfl | rfl
  · rw [if_pos rfl]
    split
    · rw [h.setRegByte]; exact ⟨rfl, putByte_same _ _ _⟩
    · rw [h.setMemByte _ d.1 d.2]; exact ⟨rfl, ⟨rfl, rfl, rfl, rfl, rfl⟩⟩
  · rw [if_neg (by decide), if_pos rfl]
    split
    · exact ⟨rfl, put_same _ _ _⟩
    · rw [h.setWord _ d.1 d.2]; exact ⟨rfl, ⟨rfl, rfl, rfl, rfl, rfl⟩⟩
  · simp only [show ¬ (3 : Int) = 1 by decide, show ¬ (3 : Int) = 2 by decide, if_false, if_true]
    rw [h.setRegByte]; exact ⟨rfl, putByte_same _ _ _⟩
  · simp only [show ¬ (4 : Int) = 1 by decide, show ¬ (4 : Int) = 2 by decide, show ¬ (4 : Int) = 3 by decide, if_false, if_true]
    exact ⟨rfl, put_same _ _ _⟩
  · simp only [show ¬ (14 : Int) = 1 by decide, show ¬ (14 : Int) = 2 by decide, show ¬ (14 : Int) = 3 by decide, show ¬ (14 : Int) = 4 by decide, show ¬ (14 : Int) = 5 by decide, show ¬ (14 : Int) = 12 by decide, show ¬ (14 : Int) = 13 by decide, if_false, if_true]
    rw [h.setRegByte]; exact ⟨rfl, putByte_same m.r 0 _⟩
  · simp only [show ¬ (16 : Int) = 1 by decide, show ¬ (16 : Int) = 2 by decide, show ¬ (16 : Int) = 3 by decide, show ¬ (16 : Int) = 4 by decide, show ¬ (16 : Int) = 5 by decide, show ¬ (16 : Int) = 12 by decide, show ¬ (16 : Int) = 13 by decide, show ¬ (16 : Int) = 14 by decide, if_false, if_true]
    exact ⟨rfl, put_same m.r 0 _⟩
theorem get_put (r : Regs) (n : Int) (v : V) (h : 0 ≤ n ∧ n ≤ 7) : (r.put n v).get n = v := by
  rcases cases8 h.1 (show n < 8 by omega) with rfl | rfl | rfl | rfl | rfl | rfl | rfl | rfl <;> rfl
theorem byte_put (r : Regs) (n b : Int) (hn : 0 ≤ n ∧ n ≤ 7) (b0 : 0 ≤ b) (b1 : b ≤ 255) : (r.putByte n b).byteV n = b := by
  have hm : 0 ≤ n % 4 ∧ n % 4 ≤ 7 := by omega
  have h8 : 0 ≤ n ∧ n < 8 := by omega
  unfold Regs.putByte
  rw [if_pos h8]
  unfold Regs.byteV
  rw [if_pos h8, get_put _ _ _ hm]
  dsimp only
  split <;> omega
/-- What was written is read there, if the place is the same. -/
theorem Easy.getput {m : Mach} (h : Easy m) (i : Inst) (hi : i.wf) (a : Int) (ha : opA a) (v : Int) (t : V) (v0 : 0 ≤ v) (v1 : v ≤ limW (wideB a)) (ho : (m.putV i a ⟨v, false⟩).placeO i = m.placeO i) :
    ((m.putV i a ⟨v, false⟩).getV i a t).v = v := by
  have d := defSeg_in i
  have hsame := (h.putV i a ha v).2
  have hps : (m.putV i a ⟨v, false⟩).placeS i = m.placeS i := hsame.seg _
  rcases ha with rfl | rfl | rfl | rfl | rfl | rfl
  · have hv : v ≤ 255 := v1
    by_cases hm : i.mod = 3
    · have e : m.putV i 1 ⟨v, false⟩ = m.setR (m.r.putByte i.rm (v % 256)) := by unfold Mach.putV; rw [if_pos rfl, if_pos hm, h.setRegByte]
      rw [e]
      unfold Mach.getV
      rw [if_pos rfl, if_pos hm]
      show (m.r.putByte i.rm (v % 256)).byteV i.rm = v
      rw [byte_put _ _ _ hi.rm (by omega) (by omega)]
      omega
    · unfold Mach.getV
      rw [if_pos rfl, if_neg hm, hps, ho]
      have e : m.putV i 1 ⟨v, false⟩ = m.putMemByte (m.placeS i) (m.placeO i) (v % 256) := by
        unfold Mach.putV
        rw [if_pos rfl, if_neg hm, h.placeM]
        exact h.setMemByte _ d.1 d.2 _ _
      rw [e]
      show upd m.mem (lin (m.placeS i).v (m.placeO i)) (v % 256) (lin (m.placeS i).v (m.placeO i)) = v
      unfold upd
      rw [if_pos rfl]
      omega
  · have hv : v ≤ 65535 := v1
    by_cases hm : i.mod = 3
    · have e : m.putV i 2 ⟨v, false⟩ = m.setR (m.r.put i.rm ⟨v, false⟩) := by unfold Mach.putV; rw [if_neg (by decide), if_pos rfl, if_pos hm]
      rw [e]
      unfold Mach.getV
      rw [if_neg (by decide), if_pos rfl, if_pos hm]
      show ((m.r.put i.rm ⟨v, false⟩).get i.rm).v = v
      rw [get_put _ _ _ hi.rm]
    · unfold Mach.getV
      rw [if_neg (by decide), if_pos rfl, if_neg hm, hps, ho]
      have e : m.putV i 2 ⟨v, false⟩ = m.putWord (m.placeS i) (m.placeO i) ⟨v, false⟩ := by
        unfold Mach.putV
        rw [if_neg (by decide), if_pos rfl, if_neg hm, h.placeM]
        exact h.setWord _ d.1 d.2 _ _
      rw [e]
      have hob := offOf_wf m.r i hi.disp
      have hne := lin_ne (m.placeS i).v (m.placeO i) hob.1 hob.2
      show setF m.mem (lin (m.placeS i).v (m.placeO i)) (lin (m.placeS i).v (succW (m.placeO i))) v (lin (m.placeS i).v (m.placeO i)) + 256 * setF m.mem (lin (m.placeS i).v (m.placeO i)) (lin (m.placeS i).v (succW (m.placeO i))) v (lin (m.placeS i).v (succW (m.placeO i))) = v
      unfold setF upd
      rw [if_neg hne, if_pos rfl, if_pos rfl]
      omega
  · have hv : v ≤ 255 := v1
    have e : m.putV i 3 ⟨v, false⟩ = m.setR (m.r.putByte i.reg (v % 256)) := by
      unfold Mach.putV
      simp only [show ¬ (3 : Int) = 1 by decide, show ¬ (3 : Int) = 2 by decide, if_false, if_true]
      rw [h.setRegByte]
    rw [e]
    show (m.r.putByte i.reg (v % 256)).byteV i.reg = v
    rw [byte_put _ _ _ hi.reg (by omega) (by omega)]
    omega
  · have e : m.putV i 4 ⟨v, false⟩ = m.setR (m.r.put i.reg ⟨v, false⟩) := by
      unfold Mach.putV
      simp only [show ¬ (4 : Int) = 1 by decide, show ¬ (4 : Int) = 2 by decide, show ¬ (4 : Int) = 3 by decide, if_false, if_true]
    rw [e]
    show ((m.r.put i.reg ⟨v, false⟩).get i.reg).v = v
    rw [get_put _ _ _ hi.reg]
  · have hv : v ≤ 255 := v1
    have e : m.putV i 14 ⟨v, false⟩ = m.setR (m.r.putByte 0 (v % 256)) := by
      unfold Mach.putV
      simp only [show ¬ (14 : Int) = 1 by decide, show ¬ (14 : Int) = 2 by decide, show ¬ (14 : Int) = 3 by decide, show ¬ (14 : Int) = 4 by decide, show ¬ (14 : Int) = 5 by decide, show ¬ (14 : Int) = 12 by decide, show ¬ (14 : Int) = 13 by decide, if_false, if_true]
      rw [h.setRegByte]
    rw [e]
    show (m.r.putByte 0 (v % 256)).byteV 0 = v
    rw [byte_put _ _ _ ⟨by decide, by decide⟩ (by omega) (by omega)]
    omega
  · have e : m.putV i 16 ⟨v, false⟩ = m.setR (m.r.put 0 ⟨v, false⟩) := by
      unfold Mach.putV
      simp only [show ¬ (16 : Int) = 1 by decide, show ¬ (16 : Int) = 2 by decide, show ¬ (16 : Int) = 3 by decide, show ¬ (16 : Int) = 4 by decide, show ¬ (16 : Int) = 5 by decide, show ¬ (16 : Int) = 12 by decide, show ¬ (16 : Int) = 13 by decide, show ¬ (16 : Int) = 14 by decide, if_false, if_true]
    rw [e]
    rfl
end Go.Proofs.YtcglkefaopgjeaaGreatDoor

/- The step of a sum and its like in what begin makes, and what is so behind it: plain laws and one step. -/
namespace Go.Proofs.YtcglkefaopgjeaaGreatDoor
set_option linter.unusedSimpArgs false
set_option linter.unusedVariables false
open Go.RowKit

/-- The machine behind a sum and its like, by the operands' values. -/
def sumE (m : Mach) (i : Inst) (r : IRow) (va vb : Int) : Mach :=
  (if r.name = 8 ∨ r.name = 33 then m else m.putV i r.a ⟨doV r.name (cutW va (wideB r.a)) (cutW vb (wideB r.a)) (ifI (andW m.r.f 1 != 0) 1) (wideB r.a), false⟩).flagged (doF r.name (cutW va (wideB r.a)) (cutW vb (wideB r.a)) (ifI (andW m.r.f 1 != 0) 1) (wideB r.a))
theorem sum_step (r : Regs) (hr : r.wf) (i : Inst) (hg : i.good) (L : List Int) (hL : putL i = L) (row : IRow) (hrow : instRow i.op i.reg = some row) (hn : (1 ≤ row.name ∧ row.name ≤ 8) ∨ row.name = 33) (C : Phys) (T : TypeId) (w : World) (lv : Value)
    (h : Own w C lv (begun r L)) (hb : Box C lv w 0 basesC T) :
    Calls Tryz.prog 25 #[.pointer (some ⟨C.b, 0, none⟩)] w fun e w' => e = .returned (.bool true) ∧ After C lv w (sumE ((begun r L).on L.length) i row ((begun r L).getV i row.a ⟨i.imm, false⟩).v ((begun r L).getV i row.b ⟨i.imm, false⟩).v) w' := by
  have hlen := putL_le i
  have hab := sum_row hg.wf.op.1 hg.wf.op.2 hg.wf.reg.1 hg.wf.reg.2 hrow hn
  have hrp := reps_sum row.name hn
  have E := (easy_begun r L).on L.length
  refine step_anyG w C lv _ _ h T hb rfl i L.length (take_begun r hr i hg L hL) (plainB_sane (sane_begun r L) _ _) (by rw [← hL]; omega) row hrow hg.wf hrp.1 hrp.2 ?_
  intro w lv h hb
  refine do_numbersG w C lv _ _ h T hb i row ⟨i.imm, false⟩ (by omega) ?_
  intro w lv h hb
  have e1 : (((begun r L).on L.length).getM i row.a).plain (((begun r L).on L.length).getV i row.a ⟨i.imm, false⟩) = (begun r L).on L.length := by rw [E.getM, plain_of (E.getT i row.a (by omega) (by omega) _ rfl)]
  have e2 : (((begun r L).on L.length).getM i row.b).plain (((begun r L).on L.length).getV i row.b ⟨i.imm, false⟩) = (begun r L).on L.length := by rw [E.getM, plain_of (E.getT i row.b (by omega) (by omega) _ rfl)]
  have him : V.wf ⟨i.imm, false⟩ := ⟨hg.wf.imm.1, hg.wf.imm.2⟩
  have := numbers_sums w C lv _ h T hb i row ⟨i.imm, false⟩ him hn (by omega) (by omega) (getOk_all T i hg.wf row.a (by omega)) (getOk_all T i hg.wf row.b (by omega)) (fun _ => putOk_all T i hg.wf row.a (by omega)) (by rw [e1]; exact getV_wf h i row.b him)
  have e3 : ((begun r L).on L.length).sumM i row ⟨i.imm, false⟩ row.name = sumE ((begun r L).on L.length) i row ((begun r L).getV i row.a ⟨i.imm, false⟩).v ((begun r L).getV i row.b ⟨i.imm, false⟩).v := by
    unfold Mach.sumM
    dsimp only
    rw [e1, e2]
    rfl
  rwa [e3] at this
theorem mask6 (s z p c a o : Bool) : andW (ifI s 128 + ifI z 64 + ifI p 4 + ifI c 1 + ifI a 16 + ifI o 2048) 2261 = ifI s 128 + ifI z 64 + ifI p 4 + ifI c 1 + ifI a 16 + ifI o 2048 := by
  cases s <;> cases z <;> cases p <;> cases c <;> cases a <;> cases o <;> decide +kernel
theorem mask3 (s z p : Bool) : andW (ifI s 128 + ifI z 64 + ifI p 4) 2261 = ifI s 128 + ifI z 64 + ifI p 4 := by
  cases s <;> cases z <;> cases p <;> decide +kernel
theorem doF_mask (name x y c : Int) (wide : Bool) : andW (doF name x y c wide) 2261 = doF name x y c wide := by
  unfold doF
  split
  · exact mask6 _ _ _ _ _ _
  · split
    · exact mask6 _ _ _ _ _ _
    · split
      · exact mask6 _ _ _ _ _ _
      · split
        · exact mask6 _ _ _ _ _ _
        · exact mask3 _ _ _
theorem doV_lim (name x y c : Int) (wide : Bool) (x0 : 0 ≤ x) (x1 : x < 2 * topW wide) (y0 : 0 ≤ y) (y1 : y < 2 * topW wide) : 0 ≤ doV name x y c wide ∧ doV name x y c wide ≤ limW wide := by
  have tl : 2 * topW wide = limW wide + 1 := by cases wide <;> decide
  have h1 := addV_wf x y 0 wide
  have h2 := addV_wf x y c wide
  have h3 := subV_wf x y 0 wide
  have h4 := subV_wf x y c wide
  have h5 := or_in x y wide x0 x1 y0 y1
  have h6 := xor_in x y wide x0 x1 y0 y1
  have h7 := and_in x y wide x0 x1 y0 y1
  unfold doV
  repeat' split
  all_goals omega
/-- What is so behind a sum and its like. -/
theorem sum_says (r : Regs) (hr : r.wf) (i : Inst) (hi : i.wf) (L : List Int) (n : Nat) (row : IRow) (ha : opA row.a) (va vb : Int) (a0 : 0 ≤ va) (a1 : va ≤ 65535) (b0 : 0 ≤ vb) (b1 : vb ≤ 65535) (t : V) (hv : ((begun r L).getV i row.a t).v = va) :
    let M := sumE ((begun r L).on n) i row va vb
    M.state = 0 ∧ M.r.f = orW (andNotW (andW r.f 4053) 2261) (doF row.name (cutW va (wideB row.a)) (cutW vb (wideB row.a)) (ifI (andW (andW r.f 4053) 1 != 0) 1) (wideB row.a)) ∧ (∀ k, M.r.seg k = (begun r L).r.seg k) ∧
    ((M.r.offOf i).1 = ((begun r L).r.offOf i).1 → (M.getV i row.a t).v = if row.name = 8 ∨ row.name = 33 then va else doV row.name (cutW va (wideB row.a)) (cutW vb (wideB row.a)) (ifI (andW (andW r.f 4053) 1 != 0) 1) (wideB row.a)) := by
  have E := (easy_begun r L).on n
  have hx := cut_in va (wideB row.a) a0 a1
  have hy := cut_in vb (wideB row.a) b0 b1
  have hlim := doV_lim row.name _ _ (ifI (andW (andW r.f 4053) 1 != 0) 1) (wideB row.a) hx.1 hx.2 hy.1 hy.2
  have hmask := doF_mask row.name (cutW va (wideB row.a)) (cutW vb (wideB row.a)) (ifI (andW (andW r.f 4053) 1 != 0) 1) (wideB row.a)
  unfold sumE
  rw [show ((begun r L).on n).r.f = andW r.f 4053 from rfl]
  generalize doV row.name (cutW va (wideB row.a)) (cutW vb (wideB row.a)) (ifI (andW (andW r.f 4053) 1 != 0) 1) (wideB row.a) = dv at hlim ⊢
  generalize doF row.name (cutW va (wideB row.a)) (cutW vb (wideB row.a)) (ifI (andW (andW r.f 4053) 1 != 0) 1) (wideB row.a) = df at hmask ⊢
  by_cases hc : row.name = 8 ∨ row.name = 33
  · simp only [if_pos hc]
    refine ⟨rfl, ?_, fun k => rfl, fun _ => ?_⟩
    · show orW (andNotW (andW r.f 4053) 2261) (andW df 2261) = _
      rw [hmask]
    · exact hv
  · simp only [if_neg hc]
    obtain ⟨p1, p2⟩ := E.putV i row.a ha dv
    refine ⟨p1, ?_, fun k => p2.seg k, fun ho => ?_⟩
    · show orW (andNotW (((begun r L).on n).putV i row.a ⟨dv, false⟩).r.f 2261) (andW df 2261) = _
      rw [hmask, p2.f]
      rfl
    · exact E.getput i hi row.a ha dv t hlim.1 hlim.2 ho
end Go.Proofs.YtcglkefaopgjeaaGreatDoor

/- What the law CpuSums carries from call to call. -/
namespace Go.Proofs.YtcglkefaopgjeaaGreatDoor
set_option linter.unusedSimpArgs false
set_option linter.unusedVariables false
open Go.RowKit

/-- The machine, the boxes of the instruction, its row and hansom/addr.bases, and boxes of the law's own. -/
def PX (C : Phys) (w : World) (m : Mach) (i : Inst) (r : IRow) (T : TypeId) (B5 B6 : Nat) (E : List (Nat × Array Value × TypeId)) (wx : World) : Prop :=
  ∃ lv, PIn C lv w wx m i r T B5 B6 ∧ ∀ e ∈ E, Box C lv wx e.1 e.2.1 e.2.2
section
variable {C : Phys} {w wx wy : World} {m m2 : Mach} {i : Inst} {r : IRow} {T : TypeId} {B5 B6 : Nat} {E : List (Nat × Array Value × TypeId)}
theorem PX.below (h : PX C w m i r T B5 B6 E wx) (hb : Below wx.heap.size wx wy) : PX C w m i r T B5 B6 E wy := by
  obtain ⟨lv, a, b⟩ := h
  exact ⟨lv, a.below hb, fun e he => (b e he).below hb⟩
theorem PX.alloc (h : PX C w m i r T B5 B6 E wx) (o : Obj) : PX C w m i r T B5 B6 E (wx.alloc o) := h.below ((Below.refl _ _).alloc (Nat.le_refl _) _)
theorem PX.drew (h : PX C w m i r T B5 B6 E wx) : PX C w m i r T B5 B6 E wx.drew := h.below (Below.refl _ _).drew
theorem PX.calls {f : FuncId} {args : Array Value} {v : Value} (hc : ∀ (w : World) (lv : Value), Own w C lv m → Box C lv w 0 basesC T → Calls Tryz.prog f args w fun e w' => e = .returned v ∧ After C lv w m2 w') (wx : World) (h : PX C w m i r T B5 B6 E wx) :
    Calls Tryz.prog f args wx fun e w' => e = .returned v ∧ PX C w m2 i r T B5 B6 E w' := by
  obtain ⟨lv, a, b⟩ := h
  refine (hc wx lv a.o a.g).mono ?_
  rintro e w' ⟨rfl, lv2, h2, f2, k2⟩
  exact ⟨rfl, lv2, a.step h2 f2 k2, fun e he => (b e he).step f2 k2⟩
theorem PX.ci (h : PX C w m i r T B5 B6 E wx) (j : Nat) : wx.cell? ⟨B5, j, none⟩ = i.cells[j]? := by
  obtain ⟨lv, a, b⟩ := h
  exact a.i.row.cell j
theorem PX.cr (h : PX C w m i r T B5 B6 E wx) (j : Nat) : wx.cell? ⟨B6, j, none⟩ = (rowC r)[j]? := by
  obtain ⟨lv, a, b⟩ := h
  exact a.r.row.cell j
theorem PX.sees (h : PX C w m i r T B5 B6 E wx) : Sees wx C m := by
  obtain ⟨lv, a, b⟩ := h
  exact a.o.sees
theorem PX.lt (h : PX C w m i r T B5 B6 E wx) : B5 < wx.heap.size ∧ B6 < wx.heap.size ∧ C.b < wx.heap.size := by
  obtain ⟨lv, a, b⟩ := h
  exact ⟨a.i.row.lt, a.r.row.lt, a.o.row.lt⟩
theorem PX.g (h : PX C w m i r T B5 B6 E wx) : Row wx 0 basesC T := by
  obtain ⟨lv, a, b⟩ := h
  exact a.g.row
theorem PX.b (h : PX C w m i r T B5 B6 E wx) : Below w.heap.size w wx := by
  obtain ⟨lv, a, b⟩ := h
  exact a.b
theorem PX.box (h : PX C w m i r T B5 B6 E wx) {k : Nat} {cs : Array Value} {t : TypeId} (he : (k, cs, t) ∈ E) : Row wx k cs t := by
  obtain ⟨lv, a, b⟩ := h
  exact (b _ he).row
theorem PX.new (h : PX C w m i r T B5 B6 E wx) (cs : Array Value) (t : TypeId) : PX C w m i r T B5 B6 ((wx.heap.size, cs, t) :: E) (wx.alloc (.cells cs t)) := by
  obtain ⟨lv, a, b⟩ := h
  refine ⟨lv, a.alloc _, fun e he => ?_⟩
  rcases List.mem_cons.1 he with rfl | he
  · exact Box.new a.o cs t
  · exact (b e he).alloc _
/-- A word is stored into the last box made. -/
theorem PX.set {k : Nat} {cs : Array Value} {t : TypeId} (h : PX C w m i r T B5 B6 ((k, cs, t) :: E) wx) (h0 : PX C w m i r T B5 B6 E wy) (hk : wy.heap.size ≤ k) (j : Nat) (v : Value) : PX C w m i r T B5 B6 ((k, cs.setIfInBounds j v, t) :: E) (wx.setCell ⟨k, j, none⟩ v) := by
  obtain ⟨lv, a, b⟩ := h
  obtain ⟨lv0, a0, b0⟩ := h0
  have no := (b _ (List.mem_cons_self ..)).no
  have ap := a0.o.apart hk
  have hs := (a0.b).size
  have n5 : B5 ≠ k := by have := a0.i.row.lt; omega
  have n6 : B6 ≠ k := by have := a0.r.row.lt; omega
  have n0 : (0 : Nat) ≠ k := by have := a0.g.row.lt; omega
  refine ⟨lv, ⟨a.o.setBox (p := ⟨k, j, none⟩) no ap v, a.b.setCell (p := ⟨k, j, none⟩) (by dsimp only; omega) v, a.i.set_other _ _ n5, a.r.set_other _ _ n6, a.g.set_other _ _ n0, a.n⟩, fun e he => ?_⟩
  rcases List.mem_cons.1 he with rfl | he
  · exact (b _ (List.mem_cons_self ..)).set j v
  · refine (b e (List.mem_cons_of_mem _ he)).set_other _ _ ?_
    have := (b0 e he).row.lt
    dsimp only
    omega
end
/-- Two places of one segment compared. -/
theorem eq_P (a : Int) (b : Bool) (p q : Int) (w : World) : (Op.equalIn 10000 52 (.agg #[.int .u16 a, .bool b, .int .u16 p]) (.agg #[.int .u16 a, .bool b, .int .u16 q])).run Tryz.prog w = .ok (p == q) w := by
  have hS : Tryz.prog.underlying 52 = some (.struct (Tryz.prog.fieldsOf 52)) := by kernel_rfl
  rw [show (10000 : Nat) = 9999 + 1 from rfl, run_equalIn_agg w 9999 52 _ _ hS (by kernel_rfl)]
  simp only [Program.fieldsOf, Tryz.underlying52]
  have hv := eq_V 9997 a b w
  go_simp
  by_cases h : p = q
  · simp [h]
  · simp [h]
theorem retX {a b : Bool} (h : a = b) : Ending.returned (.bool a) = .returned (.bool b) := by rw [h]
theorem sum_in {C : Phys} {lv : Value} {w w2 w3 w4 : World} {m : Mach} {j : Inst} {r : IRow} {T : TypeId} {B5 B6 : Nat} (hb : Below w.heap.size w w2) (hj : Row w2 B5 j.cells 30) (hr : Row w2 B6 (rowC r) 47) (hg : Row w2 0 basesC T)
    (h3 : Below w2.heap.size w2 w3) (ho : Own w4 C lv m) (h4 : Below w3.heap.size w3 w4) (hn : ∀ k, k < w3.heap.size → ¬ C.own lv k) : PIn C lv w w4 m j r T B5 B6 :=
  ⟨ho, (hb.trans (h3.mono hb.size)).trans (h4.mono (Nat.le_trans hb.size h3.size)), fresh_box h4 hn (Below.row h3 hj hj.lt), fresh_box h4 hn (Below.row h3 hr hr.lt), fresh_box h4 hn (Below.row h3 hg hg.lt),
    fun k hk => hn k (Nat.lt_of_lt_of_le hk (Nat.le_trans hb.size h3.size))⟩
end Go.Proofs.YtcglkefaopgjeaaGreatDoor

/- What the law CpuOnes wants of rows, machines and numbers; the step: plain laws. -/
namespace Go.Proofs.YtcglkefaopgjeaaGreatDoor
set_option linter.unusedSimpArgs false
set_option linter.unusedVariables false
open Go.RowKit

def isOneB (n : Int) : Bool := n == 15 || n == 16 || n == 84 || n == 85
def isShB (n : Int) : Bool := decide (63 ≤ n) && decide (n ≤ 69)
def OneN (n : Int) : Prop := n = 15 ∨ n = 16 ∨ n = 84 ∨ n = 85
def ShN (n : Int) : Prop := 63 ≤ n ∧ n ≤ 69
theorem OneN.b {n : Int} (h : OneN n) : isOneB n = true := by rcases h with rfl | rfl | rfl | rfl <;> decide
theorem ShN.b {n : Int} (h : ShN n) : isShB n = true := by simp [isShB, h.1, h.2]
theorem OneN.nb {n : Int} (h : OneN n) : isShB n = false := by rcases h with rfl | rfl | rfl | rfl <;> decide
def oneOk (r : IRow) : Bool := (!isOneB r.name || ((r.a == 1 || r.a == 2 || r.a == 22) && r.b == 0)) && (!isShB r.name || ((r.a == 1 || r.a == 2) && (r.b == 15 || r.b == 18)))
theorem one_ok : ∀ op : Fin 256, ∀ reg : Fin 8, (match isaOf (op.val : Nat) (reg.val : Nat) with | none => true | some r => oneOk r) = true := by decide +kernel
theorem one_row {op reg : Int} {r : IRow} (h0 : 0 ≤ op) (h1 : op ≤ 255) (g0 : 0 ≤ reg) (g1 : reg ≤ 7) (h : instRow op reg = some r) (n : OneN r.name ∨ ShN r.name) :
    (r.a = 1 ∨ r.a = 2 ∨ r.a = 22) ∧ (ShN r.name → (r.a = 1 ∨ r.a = 2) ∧ (r.b = 15 ∨ r.b = 18)) ∧ (r.b = 0 ∨ r.b = 15 ∨ r.b = 18) := by
  obtain ⟨a, rfl⟩ := Int.eq_ofNat_of_zero_le h0
  obtain ⟨b, rfl⟩ := Int.eq_ofNat_of_zero_le g0
  have := one_ok ⟨a, by omega⟩ ⟨b, by omega⟩
  rw [show ((⟨a, by omega⟩ : Fin 256).val) = a from rfl, show ((⟨b, by omega⟩ : Fin 8).val) = b from rfl, (instRow_some h).2] at this
  rcases n with n | n
  · have hb := n.nb
    have ha := n.b
    simp only [oneOk, ha, hb, Bool.not_true, Bool.not_false, Bool.false_or, Bool.true_or, Bool.and_true, Bool.and_eq_true, Bool.or_eq_true, beq_iff_eq] at this
    refine ⟨by omega, fun hs => ?_, by omega⟩
    have := hs.b
    rw [hb] at this
    cases this
  · have hb := n.b
    have ha : isOneB r.name = false := by
      obtain ⟨n0, n1⟩ := n
      simp [isOneB]
      omega
    simp only [oneOk, ha, hb, Bool.not_true, Bool.not_false, Bool.false_or, Bool.true_or, Bool.true_and, Bool.and_eq_true, Bool.or_eq_true, beq_iff_eq] at this
    exact ⟨by omega, fun _ => ⟨by omega, by omega⟩, by omega⟩
theorem row_inc (g : Int) (h0 : 0 ≤ g) (h1 : g ≤ 7) : instRow 64 g = some ⟨15, 22, 0, false⟩ := by
  rcases (show g = 0 ∨ g = 1 ∨ g = 2 ∨ g = 3 ∨ g = 4 ∨ g = 5 ∨ g = 6 ∨ g = 7 by omega) with rfl | rfl | rfl | rfl | rfl | rfl | rfl | rfl <;> decide
theorem inc_there (x : Inst) (hx : x.kinds) : ∃ K N : Nat, K < 256 ∧ N < manyOf (tryOp x K) ∧ tryOk x 15 16 K N = true := by
  have ht : 0 ≤ tryReg x 0 ∧ tryReg x 0 ≤ 7 := by unfold tryReg; omega
  have hrow := row_inc _ ht.1 ht.2
  refine ⟨(((64 : Nat) - x.op : Int) % 256).toNat, 0, by omega, ?_, ?_⟩
  · rw [tryOp_at x hx.op.1 hx.op.2 64 (by decide)]
    decide
  · exact try_row x 15 16 _ _ 64 (tryReg x 0) (tryOp_at x hx.op.1 hx.op.2 64 (by decide)) rfl ⟨15, 22, 0, false⟩ hrow (fun _ => by decide) (by decide) (by decide) (by decide) (by decide) (by decide)
/-- One of the eight of a group is the one. -/
theorem reg_there (x : Inst) (g : Nat) (hg : g < 8) : ∃ N : Nat, N < 8 ∧ tryReg x N = g := by
  refine ⟨(((g : Int) - x.reg) % 8).toNat, by omega, ?_⟩
  unfold tryReg
  omega
theorem not_there (x : Inst) (hx : x.kinds) : ∃ K N : Nat, K < 256 ∧ N < manyOf (tryOp x K) ∧ tryOk x 84 85 K N = true := by
  obtain ⟨N, hN, hr⟩ := reg_there x 2 (by decide)
  refine ⟨(((246 : Nat) - x.op : Int) % 256).toNat, N, by omega, ?_, ?_⟩
  · rw [tryOp_at x hx.op.1 hx.op.2 246 (by decide)]
    exact Nat.lt_of_lt_of_le hN (by decide)
  · exact try_row x 84 85 _ _ 246 2 (tryOp_at x hx.op.1 hx.op.2 246 (by decide)) hr.symm ⟨84, 1, 0, true⟩ (by decide) (fun h => by cases h) (by decide) (by decide) (by decide) (by decide) (by decide)
theorem sh_there (x : Inst) (hx : x.kinds) : ∃ K N : Nat, K < 256 ∧ N < manyOf (tryOp x K) ∧ tryOk x 63 69 K N = true := by
  obtain ⟨N, hN, hr⟩ := reg_there x 0 (by decide)
  refine ⟨(((208 : Nat) - x.op : Int) % 256).toNat, N, by omega, ?_, ?_⟩
  · rw [tryOp_at x hx.op.1 hx.op.2 208 (by decide)]
    exact Nat.lt_of_lt_of_le hN (by decide)
  · exact try_row x 63 69 _ _ 208 0 (tryOp_at x hx.op.1 hx.op.2 208 (by decide)) hr.symm ⟨63, 1, 18, true⟩ (by decide) (fun h => by cases h) (by decide) (by decide) (by decide) (by decide) (by decide)
theorem reps_one (n : Int) (h : OneN n ∨ ShN n) : repsOf n = 0 ∧ isFlow n = false := by
  have hc : n = 15 ∨ n = 16 ∨ n = 84 ∨ n = 85 ∨ n = 63 ∨ n = 64 ∨ n = 65 ∨ n = 66 ∨ n = 67 ∨ n = 68 ∨ n = 69 := by
    rcases h with (h | h | h | h) | ⟨h1, h2⟩ <;> omega
  rcases hc with rfl | rfl | rfl | rfl | rfl | rfl | rfl | rfl | rfl | rfl | rfl <;> exact ⟨by decide, by decide⟩

/-- What comes of one operand, and of a shift; the flags. -/
def eV (name x f : Int) (wide : Bool) (n : Nat) : Int := if isShB name then (shP name x f wide n).1 else oneV name x wide
def eF (name x f : Int) (wide : Bool) (n : Nat) : Int := if isShB name then shG name x f wide n else oneF name x f wide
/-- The flags that numbers tell, and no others. -/
def Msk (x : Int) : Prop := andW x 2261 = x
theorem Msk.nat {x : Int} (h : Msk x) : ∃ n : Nat, x = n ∧ n &&& 2261 = n := by
  have h0 : 0 ≤ x := h ▸ w_and_lo _ _
  have h1 : x < 65536 := h ▸ w_and_hi _ _
  obtain ⟨n, rfl⟩ := Int.eq_ofNat_of_zero_le h0
  have e : andW (n : Int) 2261 = ((n &&& 2261 : Nat) : Int) := u16_and_nat n 2261 (by omega) (by decide)
  exact ⟨n, rfl, by have := e.symm.trans h; omega⟩
theorem Msk.of {n : Nat} (h : n &&& 2261 = n) : Msk (n : Int) := by
  have hn : n ≤ 2261 := h ▸ Nat.and_le_right
  exact (u16_and_nat n 2261 (by omega) (by decide)).trans (by rw [h])
theorem msk_and (x : Int) (h0 : 0 ≤ x) (h1 : x < 65536) : Msk (andW x 2261) := by
  obtain ⟨n, rfl⟩ := Int.eq_ofNat_of_zero_le h0
  rw [show andW (n : Int) 2261 = ((n &&& 2261 : Nat) : Int) from u16_and_nat n 2261 (by omega) (by decide)]
  exact Msk.of (by rw [Nat.and_assoc, Nat.and_self])
theorem Msk.or {a b : Int} (ha : Msk a) (hb : Msk b) : Msk (orW a b) := by
  obtain ⟨n, rfl, hn⟩ := ha.nat
  obtain ⟨k, rfl, hk⟩ := hb.nat
  have ln : n ≤ 2261 := hn ▸ Nat.and_le_right
  have lk : k ≤ 2261 := hk ▸ Nat.and_le_right
  rw [show orW (n : Int) (k : Int) = ((n ||| k : Nat) : Int) from u16_or_nat n k (by omega) (by omega)]
  exact Msk.of (by rw [Nat.and_or_distrib_right, hn, hk])
theorem Msk.andNot {a : Int} (ha : Msk a) (k : Nat) (hk : k < 65536) : Msk (andNotW a (k : Nat)) := by
  obtain ⟨n, rfl, hn⟩ := ha.nat
  have ln : n ≤ 2261 := hn ▸ Nat.and_le_right
  rw [show andNotW (n : Int) (k : Int) = ((n &&& (65535 - k) : Nat) : Int) from u16_andNot_nat n k (by omega) hk]
  exact Msk.of (by rw [Nat.and_assoc, Nat.and_comm (65535 - k), ← Nat.and_assoc, hn])
theorem Msk.and1 {a : Int} (ha : Msk a) : Msk (andW a 1) := by
  obtain ⟨n, rfl, hn⟩ := ha.nat
  have ln : n ≤ 2261 := hn ▸ Nat.and_le_right
  rw [show andW (n : Int) 1 = ((n &&& 1 : Nat) : Int) from u16_and_nat n 1 (by omega) (by decide)]
  exact Msk.of (by rw [Nat.and_assoc, Nat.and_comm 1, ← Nat.and_assoc, hn])
theorem msk_sgn (v : Int) (wide : Bool) : Msk (sgnF v wide) := mask3 _ _ _
theorem msk_add (a b c : Int) (wide : Bool) : Msk (addF a b c wide) := mask6 _ _ _ _ _ _
theorem msk_sub (a b c : Int) (wide : Bool) : Msk (subF a b c wide) := mask6 _ _ _ _ _ _
theorem eF_mask (name x f : Int) (wide : Bool) (n : Nat) (hf : Msk f) : Msk (eF name x f wide n) := by
  have m1 : Msk 1 := by unfold Msk; decide +kernel
  have m2 : Msk 2048 := by unfold Msk; decide +kernel
  unfold eF
  split
  · unfold shG
    split
    · exact hf
    · unfold shF
      dsimp only
      have hb : Msk (if 63 ≤ name ∧ name ≤ 66 then f else sgnF (shP name x f wide n).1 wide) := by
        split
        · exact hf
        · exact msk_sgn _ _
      have h1 := hb.andNot 2049 (by decide)
      have h2 : Msk (if (shP name x f wide n).2.1 = 1 then orW (andNotW (if 63 ≤ name ∧ name ≤ 66 then f else sgnF (shP name x f wide n).1 wide) 2049) 1 else andNotW (if 63 ≤ name ∧ name ≤ 66 then f else sgnF (shP name x f wide n).1 wide) 2049) := by
        split
        · exact h1.or m1
        · exact h1
      split
      · exact h2
      · exact h2.or m2
  · unfold oneF
    split
    · exact ((msk_add _ _ _ _).andNot 1 (by decide)).or hf.and1
    · split
      · exact ((msk_sub _ _ _ _).andNot 1 (by decide)).or hf.and1
      · split
        · rw [hf]; exact hf
        · exact msk_sub _ _ _ _
theorem lim_top (v : Int) (wide : Bool) (h : v < 2 * topW wide) : v ≤ limW wide := by cases wide <;> simp [topW, limW] at * <;> omega
theorem top_lim (v : Int) (wide : Bool) (h : v ≤ limW wide) : v < 2 * topW wide := by cases wide <;> simp [topW, limW] at * <;> omega
theorem eV_lim (name x f : Int) (wide : Bool) (n : Nat) (x0 : 0 ≤ x) (x1 : x ≤ limW wide) : 0 ≤ eV name x f wide n ∧ eV name x f wide n ≤ limW wide := by
  have x2 := top_lim x wide x1
  unfold eV
  split
  · have := (shP_wf name x f wide x0 x2 n).1
    exact ⟨this.1, lim_top _ _ this.2⟩
  · have tl : 0 < 2 * topW wide := by cases wide <;> decide
    unfold oneV
    have hm : ∀ y : Int, 0 ≤ y % (2 * topW wide) ∧ y % (2 * topW wide) ≤ limW wide := fun y => ⟨Int.emod_nonneg _ (by omega), lim_top _ _ (Int.emod_lt_of_pos _ tl)⟩
    split
    · exact hm _
    · split
      · exact hm _
      · split
        · have : limW wide ≤ 65535 := by cases wide <;> decide
          exact cut_lim _ _ (by omega) (by omega)
        · exact hm _
theorem cut_same (x : Int) (wide : Bool) (x0 : 0 ≤ x) (x1 : x ≤ limW wide) : cutW x wide = x := sgn_cut x wide x0 (top_lim _ _ x1)
def opO (a : Int) : Prop := a = 1 ∨ a = 2 ∨ a = 22
theorem opO.a {a : Int} (h : opO a) (h2 : a ≠ 22) : opA a := by rcases h with h | h | h <;> simp [opA, h] <;> exact absurd h h2
theorem Easy.putO {m : Mach} (h : Easy m) (i : Inst) (a : Int) (ha : opO a) (v : Int) :
    (m.putV i a ⟨v, false⟩).state = m.state ∧ SameS m.r (m.putV i a ⟨v, false⟩).r := by
  by_cases e : a = 22
  · subst e
    unfold Mach.putV
    simp only [show ¬ (22 : Int) = 1 by decide, show ¬ (22 : Int) = 2 by decide, show ¬ (22 : Int) = 3 by decide, show ¬ (22 : Int) = 4 by decide, show ¬ (22 : Int) = 5 by decide, show ¬ (22 : Int) = 12 by decide, show ¬ (22 : Int) = 13 by decide, show ¬ (22 : Int) = 14 by decide, show ¬ (22 : Int) = 16 by decide, show ¬ (22 : Int) = 21 by decide, if_false, if_true]
    exact ⟨rfl, put_same _ _ _⟩
  · exact h.putV i a (ha.a e) v
theorem Easy.getputO {m : Mach} (h : Easy m) (i : Inst) (hi : i.wf) (a : Int) (ha : opO a) (v : Int) (t : V) (v0 : 0 ≤ v) (v1 : v ≤ limW (wideB a)) (ho : (m.putV i a ⟨v, false⟩).placeO i = m.placeO i) :
    ((m.putV i a ⟨v, false⟩).getV i a t).v = v := by
  by_cases e : a = 22
  · subst e
    have e : m.putV i 22 ⟨v, false⟩ = m.setR (m.r.put (i.op % 8) ⟨v, false⟩) := by
      unfold Mach.putV
      simp only [show ¬ (22 : Int) = 1 by decide, show ¬ (22 : Int) = 2 by decide, show ¬ (22 : Int) = 3 by decide, show ¬ (22 : Int) = 4 by decide, show ¬ (22 : Int) = 5 by decide, show ¬ (22 : Int) = 12 by decide, show ¬ (22 : Int) = 13 by decide, show ¬ (22 : Int) = 14 by decide, show ¬ (22 : Int) = 16 by decide, show ¬ (22 : Int) = 21 by decide, if_false, if_true]
    rw [e]
    show ((m.r.put (i.op % 8) ⟨v, false⟩).get (i.op % 8)).v = v
    rw [get_put _ _ _ (by omega)]
  · exact h.getput i hi a (ha.a e) v t v0 v1 ho
/-- The machine behind it, by the operand's value and how many steps. -/
def oneE (m : Mach) (i : Inst) (r : IRow) (va : Int) (n : Nat) : Mach :=
  (m.putV i r.a ⟨eV r.name va (andW m.r.f 2261) (wideB r.a) n, false⟩).flagged (eF r.name va (andW m.r.f 2261) (wideB r.a) n)
theorem val_lim {w : World} {C : Phys} {lv : Value} {m : Mach} (h : Own w C lv m) (i : Inst) (a : Int) (ha : opO a) {t : V} (ht : t.wf) : 0 ≤ (m.getV i a t).v ∧ (m.getV i a t).v ≤ limW (wideB a) := by
  rcases ha with rfl | rfl | rfl
  · exact getV_byte h i t
  · exact getV_wf h i 2 ht
  · exact getV_wf h i 22 ht
theorem one_step (r : Regs) (hr : r.wf) (i : Inst) (hg : i.good) (L : List Int) (hL : putL i = L) (row : IRow) (hrow : instRow i.op i.reg = some row) (hn : OneN row.name ∨ ShN row.name) (n : Nat) (hnn : ShN row.name → (((begun r L).getV i row.b ⟨i.imm, false⟩).v % 256).toNat = n) (C : Phys) (T : TypeId) (w : World) (lv : Value)
    (h : Own w C lv (begun r L)) (hb : Box C lv w 0 basesC T) :
    Calls Tryz.prog 25 #[.pointer (some ⟨C.b, 0, none⟩)] w fun e w' => e = .returned (.bool true) ∧ After C lv w (oneE ((begun r L).on L.length) i row ((begun r L).getV i row.a ⟨i.imm, false⟩).v n) w' := by
  have hlen := putL_le i
  have hab := one_row hg.wf.op.1 hg.wf.op.2 hg.wf.reg.1 hg.wf.reg.2 hrow hn
  have hrp := reps_one row.name hn
  have E := (easy_begun r L).on L.length
  have him : V.wf ⟨i.imm, false⟩ := ⟨hg.wf.imm.1, hg.wf.imm.2⟩
  have hlim := val_lim h i row.a hab.1 him
  have hcut := cut_same _ _ hlim.1 hlim.2
  refine step_anyG w C lv _ _ h T hb rfl i L.length (take_begun r hr i hg L hL) (plainB_sane (sane_begun r L) _ _) (by rw [← hL]; omega) row hrow hg.wf hrp.1 hrp.2 ?_
  intro w lv h hb
  refine do_numbersG w C lv _ _ h T hb i row ⟨i.imm, false⟩ (by rcases hn with (h | h | h | h) | ⟨h1, h2⟩ <;> omega) ?_
  intro w lv h hb
  have hf0 : Msk (andW ((begun r L).on L.length).r.f 2261) := msk_and _ h.wf.r.f.1 (by have := h.wf.r.f.2; omega)
  have e1 : (((begun r L).on L.length).getM i row.a).plain (((begun r L).on L.length).getV i row.a ⟨i.imm, false⟩) = (begun r L).on L.length := by rw [E.getM, plain_of (E.getT i row.a (by omega) (by omega) _ rfl)]
  have ga := getOk_all T i hg.wf row.a (by omega)
  have pa := putOk_all T i hg.wf row.a (by omega)
  rcases hn with hn | hn
  · have hnb := hn.nb
    have hE : oneE ((begun r L).on L.length) i row ((begun r L).getV i row.a ⟨i.imm, false⟩).v n = ((((begun r L).on L.length).putV i row.a ⟨oneV row.name (cutW (((begun r L).on L.length).getV i row.a ⟨i.imm, false⟩).v (wideB row.a)) (wideB row.a), false⟩).flagged (oneF row.name (cutW (((begun r L).on L.length).getV i row.a ⟨i.imm, false⟩).v (wideB row.a)) (andW ((begun r L).on L.length).r.f 2261) (wideB row.a))) := by
      rw [getV_on, hcut]
      unfold oneE eV eF
      rw [hnb]
      rfl
    rw [hE]
    rcases hn with e | e | e | e
    · have := numbers_15 w C lv _ h T hb i row ⟨i.imm, false⟩ him e (by omega) (by omega) ga pa
      rw [e1] at this
      rw [e]
      exact this
    · have := numbers_16 w C lv _ h T hb i row ⟨i.imm, false⟩ him e (by omega) (by omega) ga pa
      rw [e1] at this
      rw [e]
      exact this
    · have := numbers_84 w C lv _ h T hb i row ⟨i.imm, false⟩ him e (by omega) (by omega) ga pa
      rw [e1] at this
      rw [e]
      exact this
    · have := numbers_85 w C lv _ h T hb i row ⟨i.imm, false⟩ him e (by omega) (by omega) ga pa
      rw [e1] at this
      rw [e]
      exact this
  · have hb2 := (hab.2.1 hn).2
    have e2 : (((begun r L).on L.length).getM i row.b).plain (((begun r L).on L.length).getV i row.b ⟨i.imm, false⟩) = (begun r L).on L.length := by rw [E.getM, plain_of (E.getT i row.b (by omega) (by omega) _ rfl)]
    have gb := getOk_all T i hg.wf row.b (by omega)
    have hE : ((begun r L).on L.length).shiftM i row ⟨i.imm, false⟩ row.name = oneE ((begun r L).on L.length) i row ((begun r L).getV i row.a ⟨i.imm, false⟩).v n := by
      unfold Mach.shiftM
      dsimp only
      rw [e2, e1, getV_on, getV_on, hcut, hnn hn, hf0]
      unfold oneE eV eF
      rw [hn.b]
      rfl
    rw [← hE]
    have hw2 : V.wf (((((begun r L).on L.length).getM i row.b).plain (((begun r L).on L.length).getV i row.b ⟨i.imm, false⟩)).getV i row.a ⟨i.imm, false⟩) := by
      rw [e2]; exact getV_wf h i row.a him
    rcases (show row.name = 63 ∨ row.name = 64 ∨ row.name = 65 ∨ row.name = 66 ∨ row.name = 67 ∨ row.name = 68 ∨ row.name = 69 by have := hn.1; have := hn.2; omega) with e | e | e | e | e | e | e
    · rw [e]; exact numbers_63 w C lv _ h T hb i row ⟨i.imm, false⟩ him e (by omega) (by omega) gb ga pa hw2
    · rw [e]; exact numbers_64 w C lv _ h T hb i row ⟨i.imm, false⟩ him e (by omega) (by omega) gb ga pa hw2
    · rw [e]; exact numbers_65 w C lv _ h T hb i row ⟨i.imm, false⟩ him e (by omega) (by omega) gb ga pa hw2
    · rw [e]; exact numbers_66 w C lv _ h T hb i row ⟨i.imm, false⟩ him e (by omega) (by omega) gb ga pa hw2
    · rw [e]; exact numbers_67 w C lv _ h T hb i row ⟨i.imm, false⟩ him e (by omega) (by omega) gb ga pa hw2
    · rw [e]; exact numbers_68 w C lv _ h T hb i row ⟨i.imm, false⟩ him e (by omega) (by omega) gb ga pa hw2
    · rw [e]; exact numbers_69 w C lv _ h T hb i row ⟨i.imm, false⟩ him e (by omega) (by omega) gb ga pa hw2
/-- What the law asks of the machine behind it. -/
theorem one_says (r : Regs) (hr : r.wf) (i : Inst) (hi : i.wf) (L : List Int) (k : Nat) (row : IRow) (ha : opO row.a) (va : Int) (a0 : 0 ≤ va) (a1 : va ≤ limW (wideB row.a)) (n : Nat) (t : V) :
    let M := oneE ((begun r L).on k) i row va n
    M.state = 0 ∧ M.r.f = orW (andNotW (andW r.f 4053) 2261) (eF row.name va (andW (andW r.f 4053) 2261) (wideB row.a) n) ∧ (∀ k, M.r.seg k = (begun r L).r.seg k) ∧
    ((M.r.offOf i).1 = ((begun r L).r.offOf i).1 → (M.getV i row.a t).v = eV row.name va (andW (andW r.f 4053) 2261) (wideB row.a) n) := by
  have E := (easy_begun r L).on k
  have hf0 : Msk (andW (andW r.f 4053) 2261) := msk_and _ (w_and_lo _ _) (w_and_hi _ _)
  have hlim := eV_lim row.name va (andW (andW r.f 4053) 2261) (wideB row.a) n a0 a1
  have hmask := eF_mask row.name va (andW (andW r.f 4053) 2261) (wideB row.a) n hf0
  unfold oneE
  rw [show ((begun r L).on k).r.f = andW r.f 4053 from rfl]
  generalize eV row.name va (andW (andW r.f 4053) 2261) (wideB row.a) n = dv at hlim ⊢
  generalize eF row.name va (andW (andW r.f 4053) 2261) (wideB row.a) n = df at hmask ⊢
  obtain ⟨p1, p2⟩ := E.putO i row.a ha dv
  refine ⟨p1, ?_, fun k => p2.seg k, fun ho => ?_⟩
  · show orW (andNotW (((begun r L).on k).putV i row.a ⟨dv, false⟩).r.f 2261) (andW df 2261) = _
    rw [hmask, p2.f]
    rfl
  · exact E.getputO i hi row.a ha dv t hlim.1 hlim.2 ho
end Go.Proofs.YtcglkefaopgjeaaGreatDoor

/- The reference of shifts: rows of numbers that are made and stored into: plain laws. -/
namespace Go.Proofs.YtcglkefaopgjeaaGreatDoor
set_option linter.unusedSimpArgs false
set_option linter.unusedVariables false
open Go.RowKit

def rowOf (f : Nat → Int) (L : Nat) : Array Value := ((List.range L).map fun k => Value.int .i64 (f k)).toArray
theorem rowOf_size (f : Nat → Int) (L : Nat) : (rowOf f L).size = L := by simp [rowOf]
theorem rowOf_get (f : Nat → Int) (L k : Nat) (h : k < L) : (rowOf f L)[k]? = some (.int .i64 (f k)) := by
  simp [rowOf, List.getElem?_range h]
theorem rowOf_congr (f h : Nat → Int) (L : Nat) (e : ∀ k, k < L → f k = h k) : rowOf f L = rowOf h L := by
  unfold rowOf
  congr 1
  apply List.map_congr_left
  intro k hk
  rw [e k (List.mem_range.1 hk)]
theorem rowOf_set (f : Nat → Int) (L i : Nat) (v : Int) : (rowOf f L).setIfInBounds i (.int .i64 v) = rowOf (fun k => if k = i then v else f k) L := by
  apply Array.ext_getElem?
  intro j
  rw [Array.getElem?_setIfInBounds]
  by_cases hj : j < L
  · rw [rowOf_get _ _ _ hj, rowOf_get _ _ _ hj, rowOf_size]
    by_cases hij : i = j
    · subst hij
      rw [if_pos rfl, if_pos hj, if_pos rfl]
    · rw [if_neg hij, if_neg (fun e => hij e.symm)]
  · rw [Array.getElem?_eq_none (by rw [rowOf_size]; omega), Array.getElem?_eq_none (by rw [rowOf_size]; omega), rowOf_size]
    by_cases hij : i = j
    · subst hij
      rw [if_pos rfl, if_neg hj]
    · rw [if_neg hij]

theorem lt_of_cell {w : World} {g k : Nat} {v : Value} (h : w.cell? ⟨g, k, none⟩ = some v) : g < w.heap.size := by
  rcases Nat.lt_or_ge g w.heap.size with e | e
  · exact e
  · unfold World.cell? at h
    simp only [Array.getElem?_eq_none e] at h
    cases h
/-- A row of numbers that is read: in block g. -/
structure Rd (w wx : World) (L g : Nat) (f : Nat → Int) : Prop where
  b : Below w.heap.size w wx
  lt : g < wx.heap.size
  c : ∀ k, k < L → wx.cell? ⟨g, k, none⟩ = some (.int .i64 (f k))
/-- Beside it one that is written: in block Y. -/
structure RdWr (w wx : World) (L g : Nat) (f : Nat → Int) (Y : Nat) (h : Nat → Int) : Prop where
  r : Rd w wx L g f
  hY : w.heap.size ≤ Y
  hg : g < Y
  row : Row wx Y (rowOf h L) 3
section
variable {w wx wy : World} {L g Y : Nat} {f h h2 : Nat → Int}
theorem Rd.below (x : Rd w wx L g f) (hb : Below wx.heap.size wx wy) : Rd w wy L g f :=
  ⟨x.b.trans (hb.mono x.b.size), Nat.lt_of_lt_of_le x.lt hb.size, fun k hk => by
    have hbl := hb.block g x.lt
    have := x.c k hk
    unfold World.cell? at this ⊢
    simp only [hbl] at this ⊢
    exact this⟩
theorem Rd.new (x : Rd w wx L g f) (h : Nat → Int) : RdWr w (wx.alloc (.cells (rowOf h L) 3)) L g f wx.heap.size h :=
  ⟨x.below ((Below.refl _ _).alloc (Nat.le_refl _) _), x.b.size, x.lt, Row.new _ _ _⟩
theorem RdWr.set (x : RdWr w wx L g f Y h) (i : Nat) (v : Int) : RdWr w (wx.setCell ⟨Y, i, none⟩ (.int .i64 v)) L g f Y (fun k => if k = i then v else h k) := by
  refine ⟨⟨x.r.b.setCell (p := ⟨Y, i, none⟩) x.hY _, by rw [World.size_setCell]; exact x.r.lt, fun k hk => ?_⟩, x.hY, x.hg, ?_⟩
  · rw [World.cell?_setCell_other _ _ _ _ (by intro e; simp only [Addr.mk.injEq] at e; have := x.hg; omega)]
    exact x.r.c k hk
  · have := x.row.setCell i (.int .i64 v)
    rwa [rowOf_set] at this
theorem RdWr.congr (x : RdWr w wx L g f Y h) (e : ∀ k, k < L → h k = h2 k) : RdWr w wx L g f Y h2 := ⟨x.r, x.hY, x.hg, rowOf_congr h h2 L e ▸ x.row⟩
theorem RdWr.drew (x : RdWr w wx L g f Y h) : RdWr w wx.drew L g f Y h := ⟨x.r.below (Below.refl _ _).drew, x.hY, x.hg, x.row⟩
theorem RdWr.turn (x : RdWr w wx L g f Y h) : Rd w wx L Y h := ⟨x.r.b, x.row.lt, fun k hk => by rw [x.row.cell, rowOf_get _ _ _ hk]⟩
end
/-- What comes from the number ahead of a step; its end stays 0. -/
def shiftF (left : Bool) (L : Nat) (p : Int) (j : Nat) : Int := if left then (if j = 0 then 0 else bitI p (j - 1)) else (if j = L - 1 then 0 else bitI p (j + 1))
def endOf (left : Bool) (L : Nat) : Nat := if left then 0 else L - 1
theorem shift_end (name p c : Int) (wide : Bool) (p0 : 0 ≤ p) (p1 : p < 2 * topW wide) (c0 : 0 ≤ c) (c1 : c ≤ 1) (k : Nat) (hk : k < sizeW wide) :
    (if k = endOf (leftB name) (sizeW wide) then stepIn name p c wide else shiftF (leftB name) (sizeW wide) p k) = bitI (stepV name p c wide) k := by
  cases wide
  · rw [step_bits8 name p c p0 (by simpa [topW] using p1) c0 c1 k hk]
    unfold endOf shiftF sizeW
    cases leftB name <;> simp <;> split <;> simp_all
  · rw [step_bits16 name p c p0 (by simpa [topW] using p1) c0 c1 k hk]
    unfold endOf shiftF sizeW
    cases leftB name <;> simp <;> split <;> simp_all
theorem shift_end0 (name p c : Int) (wide : Bool) (h : stepIn name p c wide = 0) (p0 : 0 ≤ p) (p1 : p < 2 * topW wide) (c0 : 0 ≤ c) (c1 : c ≤ 1) (k : Nat) (hk : k < sizeW wide) :
    shiftF (leftB name) (sizeW wide) p k = bitI (stepV name p c wide) k := by
  rw [← shift_end name p c wide p0 p1 c0 c1 k hk, h]
  by_cases e : k = endOf (leftB name) (sizeW wide)
  · rw [if_pos e, e]
    unfold endOf shiftF
    cases leftB name <;> simp
  · rw [if_neg e]
theorem inner_store (left : Bool) (L : Nat) (p v : Int) (i : Nat) (h : shiftF left L p i = v) (k : Nat) : (if k = i then v else if k < i then shiftF left L p k else 0) = if k < i + 1 then shiftF left L p k else 0 := by
  by_cases e : k = i
  · subst e
    rw [if_pos rfl, if_pos (by omega), h]
  · rw [if_neg e]
    by_cases e2 : k < i
    · rw [if_pos e2, if_pos (by omega)]
    · rw [if_neg e2, if_neg (by omega)]
theorem inner_skip (left : Bool) (L : Nat) (p : Int) (i : Nat) (h : shiftF left L p i = 0) (k : Nat) : (if k < i then shiftF left L p k else 0) = if k < i + 1 then shiftF left L p k else 0 := by
  by_cases e : k = i
  · subst e
    rw [if_neg (by omega), if_pos (by omega), h]
  · by_cases e2 : k < i
    · rw [if_pos e2, if_pos (by omega)]
    · rw [if_neg e2, if_neg (by omega)]
theorem Rd.congr {w wx : World} {L g : Nat} {f h : Nat → Int} (x : Rd w wx L g f) (e : ∀ k, k < L → f k = h k) : Rd w wx L g h := ⟨x.b, x.lt, fun k hk => by rw [← e k hk]; exact x.c k hk⟩
theorem high_bit (p : Int) (wide : Bool) : bitI p (sizeW wide - 1) = p / topW wide % 2 := by cases wide <;> rfl
theorem low_bit (p : Int) : bitI p 0 = p % 2 := by unfold bitI; simp
theorem sgn_bit (p : Int) (wide : Bool) (h0 : 0 ≤ p) (h1 : p < 2 * topW wide) : andW (sgnF p wide) 128 = 128 * bitI p (sizeW wide - 1) := by
  rw [high_bit]
  unfold sgnF
  generalize evenB (p % 256) = e
  generalize (cutW p wide == 0) = z
  have hb : p / topW wide % 2 = 0 ∨ p / topW wide % 2 = 1 := by omega
  rcases hb with hb | hb <;> rw [hb] <;> cases e <;> cases z <;> decide
theorem run_makeInts (w : World) (L : Nat) (I : Int) (hI : I = L) (hL : L ≤ 16) : (Instr.makeSlice 76 (.int .i64 I) (.int .i64 I)).run Tryz.prog w = .ok (.slice (some ⟨w.heap.size, 0, none⟩) L L) (w.alloc (.cells (rowOf (fun _ => 0) L) 3)) := by
  subst hI
  obtain ⟨i, hi, hz0, hz1, hz2⟩ := info_parts info_int
  have := run_make (P := Tryz.prog) w 76 3 i (.int .i64 0) Tryz.underlying76 hi hz0 .i64 .i64 (L : Int) (L : Int) (by omega) (by omega) (by rw [hz2]; simp; omega) (by omega)
  rw [this, hz1]
  have e : (((L : Int)).toNat * 1) = L := by omega
  rw [e]
  have e2 : madeCells #[.int .i64 0] L = rowOf (fun _ => 0) L := by
    unfold madeCells rowOf
    apply Array.ext_getElem?
    intro j
    by_cases h : j < L
    · simp [h, Nat.mod_one]
    · simp [h]
  show Result.ok _ (w.alloc (.cells (madeCells #[.int .i64 0] L) _)) = _
  rw [e2]
  simp
end Go.Proofs.YtcglkefaopgjeaaGreatDoor

/- The reference of shifts: Shift: walk. -/
namespace Go.Proofs.YtcglkefaopgjeaaGreatDoor
set_option linter.unusedSimpArgs false
set_option linter.unusedVariables false
open Go.RowKit

set_option maxRecDepth 100000 in
set_option maxHeartbeats 6400000 in
theorem refShiftW_any (name a N : Int) (n : Nat) (hN : N = n) (was : Int) (w : World) (hn : 63 ≤ name ∧ name ≤ 69) (a0 : 0 ≤ a) (a1 : a ≤ 65535) (n1 : n ≤ 40) (hw : andW was 2261 = was) :
    Calls Tryz.prog 29 #[.int .i64 name, .int .u16 a, .int .i64 N, .int .u16 was, .bool true] w fun e w' => e = .returned (.tuple #[.int .u16 (shP name (cutW a true) was true n).1, .int .u16 (shG name (cutW a true) was true n)]) ∧ Below w.heap.size w w' := by
  subst hN
  have KS := Lib.hid (fun w => refSize_any true w)
  rw [show ((sizeW true : Nat) : Int) = 16 from rfl] at KS
  have KB := Lib.hid (fun k w (hk : k ≤ 16) => refBit_any a (k : Nat) k rfl w a0 a1 (by omega))
  have HI0 := Lib.hid (ints_new w)
  have hx := cut_in a true a0 a1
  obtain ⟨x, hxe⟩ : ∃ x, cutW a true = x := ⟨_, rfl⟩
  have hbx : ∀ k, k < 16 → bitI a k = bitI x k := by
    intro k hk
    rw [← hxe]
    rfl
  rw [hxe] at hx ⊢
  have P := shP_wf name x was true hx.1 hx.2
  have HP0 := Lib.hid (show shP name x was true 0 = (x, ifI (andW was 1 != 0) 1, x) from rfl)
  have HPS := Lib.hid (fun k => (show shP name x was true (k + 1) = (stepV name (shP name x was true k).1 (shP name x was true k).2.1 true, stepC name (shP name x was true k).1 true, (shP name x was true k).1) from rfl))
  have HG0 := Lib.hid (show n = 0 → shG name x was true n = was from fun h => by rw [shG, if_pos h])
  have HG := Lib.hid (show ¬ n = 0 → shG name x was true n = (let p := shP name x was true n; let f1 := andNotW (if 63 ≤ name ∧ name ≤ 66 then was else sgnF p.1 true) 2049; let f2 := if p.2.1 = 1 then orW f1 1 else f1; if andW (sgnF p.1 true) 128 = andW (sgnF p.2.2 true) 128 then f2 else orW f2 2048) from fun h => by rw [shG, if_neg h]; rfl)
  generalize shG name x was true n = G at HG HG0 ⊢
  generalize shP name x was true = PP at P HP0 HPS HG ⊢
  have HPP := Lib.hid P
  have HBX := Lib.hid hbx
  clear P hbx
  go_enter Tryz.func29, Tryz.ntmps29
  go_wp2_with fail
  refine (KS.out _).mono ?_
  rintro e w' ⟨rfl, rfl⟩; dsimp only
  go_wp2_with fail
  go_loopw [13, 14] (fun s13 s14 wr => ∃ k : Nat, k ≤ 16 ∧ s14 = .int .i64 k ∧ Ints w wr s13 (bitsL a k)) (fun _ s14 _ => 16 - (intOf s14).toNat)
  case atStart => exact ⟨0, by omega, rfl, HI0.out⟩
  case round =>
    obtain ⟨k, hk, rfl, hi⟩ := hrel
    have HI := Lib.hid hi
    clear hi HI0
    by_cases hlt : k < 16
    · have c1 : ((k : Nat) : Int) < 16 := by omega
      have KB1 := Lib.hid (fun w => KB.out k w (by omega))
      have HBL := Lib.hid (bitsL_step a k)
      go_wp2_with fail
      refine (KB1.out _).mono ?_
      rintro e w' ⟨rfl, rfl⟩; dsimp only
      go_wp2_with (at_builtin; go_loud (refine wpList_pushI rfl _ _ rfl rfl (HI.out.alloc _) ⟨_, 0, none⟩ 1 1 [_] rfl rfl (one_cellI _ _) (by rw [bitsL_len]; omega) ?_; intro v' w1 HPN)); go_wp2_with fail
      rw [HBL.out] at HPN
      exact ⟨⟨k + 1, by omega, by go_num, HPN⟩, by simp [intOf]; omega⟩
    · have hkn : k = 16 := by omega
      subst hkn
      have c1 : ¬ ((16 : Nat) : Int) < 16 := by omega
      obtain ⟨g, cap, hv, hcells⟩ := HI.out.done (by rw [bitsL_len]; decide)
      rw [bitsL_len] at hv hcells
      have hb := HI.out.b
      subst hv
      have hcl : ∀ k, k < 16 → wr.cell? ⟨g, k, none⟩ = some (.int .i64 (bitI x k)) := fun k hk => by rw [hcells k hk, bitsL_get _ _ _ hk, HBX.out k hk]
      clear hcells HI KB HBX
      have hgl : g < wr.heap.size := by
        exact lt_of_cell (hcl 0 (by decide))
      have HRD := Lib.hid (Rd.mk hb hgl hcl)
      clear hcl hgl hb
      by_cases h0 : n = 0
      · subst h0
        have KOF := Lib.hid (refOf_any g 16 cap (bitI x) wr (by decide) HRD.out.c (fun k hk => by have := bitI_in x k; omega))
        rw [show ofBits (bitI x) 16 = x by rw [ofBits_bit]; have := hx.2; simp only [topW, if_true] at this; omega] at KOF
        have HGG := Lib.hid (HG0.out rfl)
        clear HG HG0
        go_wp2_with fail
        refine KOF.out.mono ?_
        rintro e w' ⟨rfl, rfl⟩; dsimp only
        go_wp2_with fail
        go_ret2
        rw [HP0.out, HGG.out]
        exact ⟨rfl, HRD.out.b⟩
      · have b0 : ((n : Int) == 0) = false := by simp; omega
        have HGG := Lib.hid (HG.out h0)
        clear HG HG0 h0
        obtain ⟨cb, hcb⟩ : ∃ b, (andW was 1 != 0) = b := ⟨_, rfl⟩
        have hgt : decide (0 < andW was 1) = cb := by rw [← hcb]; have := w_and_lo was 1; rw [Bool.eq_iff_iff]; simp; omega
        rw [hcb] at HP0
        clear hcb
        go_upto_if 47 with fail
        obtain ⟨wo, hwo⟩ : ∃ wo, wo = wr := ⟨_, rfl⟩
        subst hwo
        go_cut [16] (fun s16 wx => wo = wx ∧ s16 = .int .i64 (ifI cb 1))
        case first =>
          cases cb
          · go_wp2_with fail
            go_meet
            exact ⟨rfl, rfl⟩
          · go_wp2_with fail
            go_meet
            exact ⟨rfl, rfl⟩
        case rest =>
        obtain ⟨rfl, rfl⟩ := hcut
        clear hgt
        have HRD0 := HRD.out
        go_wp2_with fail
        go_loopw [13, 16, 17, 18] (fun s13 s16 s17 s18 wr => ∃ k g cap : Nat, k ≤ n ∧ s18 = .int .i64 k ∧ s13 = .slice (some ⟨g, 0, none⟩) 16 cap ∧ Rd w wr 16 g (bitI (PP k).1) ∧ s16 = .int .i64 (PP k).2.1 ∧ s17 = .int .i64 (if k = 0 then 0 else bitI (PP k).2.2 15)) (fun _ _ _ s18 _ => n - (intOf s18).toNat)
        case atStart => exact ⟨0, g, cap, by omega, rfl, rfl, by rw [HP0.out]; exact HRD.out, by rw [HP0.out], rfl⟩
        case round =>
          clear HRD HRD0
          obtain ⟨k, g, cap, hk, rfl, rfl, hrd, rfl, rfl⟩ := hrel
          by_cases hlt : k < n
          · have c1 : ((k : Nat) : Int) < n := by omega
            obtain ⟨q1, q2, q3⟩ := HPP.out k
            have HN := Lib.hid (HPS.out k)
            obtain ⟨p, hpk⟩ : ∃ p, PP k = p := ⟨_, rfl⟩
            have HPK := Lib.hid hpk
            rw [hpk] at q1 q2 q3 HN hrd ⊢
            clear hpk
            obtain ⟨pv, pc, pa⟩ := p
            dsimp only at q1 q2 q3 HN hrd ⊢
            have HR := Lib.hid hrd
            have hc0 := hrd.c 0 (by decide)
            have hc15 := hrd.c 15 (by decide)
            clear hrd HP0 HPS HGG HPP
            go_upto_region 17 with fail
            go_cut [19, 20] (fun s19 s20 wx => Rd w wx 16 g (bitI pv) ∧ s19 = .int .i64 (bitI pv 0) ∧ s20 = .int .i64 (bitI pv 15))
            case first =>
              go_region
              all_goals
                go_wp2_with fail
                go_meet
                exact ⟨HR.out.below (Below.refl _ _).drew, rfl, rfl⟩
            case rest =>
            obtain ⟨hrd, rfl, rfl⟩ := hcut
            have HR := Lib.hid hrd
            have hmk := fun w => run_makeInts w 16 16 rfl (by decide)
            have HNW := Lib.hid (hrd.new (fun _ => 0))
            clear hrd
            go_wp2_with fail
            generalize wc.heap.size = Y at HNW ⊢
            obtain ⟨lb, hlb⟩ : ∃ b, leftB name = b := ⟨_, rfl⟩
            have HLB := Lib.hid hlb
            go_loopw [22] (fun s22 wr => ∃ i : Nat, i ≤ 16 ∧ s22 = .int .i64 i ∧ RdWr w wr 16 g (bitI pv) Y (fun j => if j < i then shiftF lb 16 pv j else 0)) (fun s22 _ => 16 - (intOf s22).toNat)
            case atStart => exact ⟨0, by omega, rfl, HNW.out.congr (fun k _ => by simp)⟩
            case round =>
              clear HNW hmk HR
              obtain ⟨i, hi, rfl, hrw⟩ := hrel
              have HRW := Lib.hid hrw
              have hcl := hrw.r.c
              have hfz := hrw.row.frozen
              have hyc := hrw.row.cell
              clear hrw
              by_cases hil : i < 16
              · have c2 : ((i : Nat) : Int) < 16 := by omega
                go_upto_region 22 with fail
                obtain ⟨wo, hwo⟩ : ∃ wo, wo = wr := ⟨_, rfl⟩
                subst hwo
                go_cut [73] (fun s73 wx => wo = wx ∧ s73 = .bool lb)
                case first =>
                  subst hlb
                  clear hcl hfz hyc
                  have hcs : name = 63 ∨ name = 64 ∨ name = 65 ∨ name = 66 ∨ name = 67 ∨ name = 68 ∨ name = 69 := by omega
                  rcases hcs with rfl | rfl | rfl | rfl | rfl | rfl | rfl
                  all_goals
                    go_wp2_with fail
                    go_meet
                    exact ⟨rfl, rfl⟩
                case rest =>
                obtain ⟨rfl, rfl⟩ := hcut
                cases lb with
                | true =>
                  by_cases h0 : i = 0
                  · subst h0
                    clear hyc
                    go_wp2_with fail
                    refine ⟨⟨1, by omega, by go_num, HRW.out.congr fun k _ => inner_skip true 16 pv 0 rfl k⟩, by simp [intOf]⟩
                  · obtain ⟨m, rfl⟩ : ∃ m, i = m + 1 := ⟨i - 1, by omega⟩
                    have hm := hcl m (by omega)
                    obtain ⟨old, hym⟩ : ∃ o, wo.cell? ⟨Y, m + 1, none⟩ = some (.int .i64 o) := ⟨_, by rw [hyc, rowOf_get _ _ _ hil]⟩
                    have hfm := hfz (m + 1)
                    clear hyc
                    go_wp2_with fail
                    refine ⟨⟨m + 2, by omega, by go_num, (HRW.out.set (m + 1) (bitI pv m)).congr fun k _ => inner_store true 16 pv (bitI pv m) (m + 1) (by simp [shiftF]) k⟩, by simp [intOf]; omega⟩
                | false =>
                  by_cases h0 : i = 15
                  · subst h0
                    clear hyc
                    go_wp2_with fail
                    refine ⟨⟨16, by omega, by go_num, HRW.out.congr fun k _ => inner_skip false 16 pv 15 rfl k⟩, by simp [intOf]⟩
                  · have c3 : ((i : Nat) : Int) < 15 := by omega
                    have hm := hcl (i + 1) (by omega)
                    obtain ⟨old, hym⟩ : ∃ o, wo.cell? ⟨Y, i, none⟩ = some (.int .i64 o) := ⟨_, by rw [hyc, rowOf_get _ _ _ hil]⟩
                    have hfm := hfz i
                    clear hyc
                    go_wp2_with fail
                    refine ⟨⟨i + 1, by omega, by go_num, (HRW.out.set i (bitI pv (i + 1))).congr fun k _ => inner_store false 16 pv (bitI pv (i + 1)) i (by simp [shiftF]; omega) k⟩, by simp [intOf]; omega⟩
              · obtain rfl : i = 16 := by omega
                clear hyc hfz hcl
                have hw2 := HRW.out.congr (h2 := shiftF lb 16 pv) (fun k hk => by rw [if_pos hk])
                have HW2 := Lib.hid hw2
                have hf0 := hw2.row.frozen 0
                have hf15 := hw2.row.frozen 15
                obtain ⟨o0, hy0⟩ : ∃ o, wr.cell? ⟨Y, 0, none⟩ = some (.int .i64 o) := ⟨_, by rw [hw2.row.cell, rowOf_get _ _ _ (by decide)]⟩
                obtain ⟨o15, hy15⟩ : ∃ o, wr.cell? ⟨Y, 15, none⟩ = some (.int .i64 o) := ⟨_, by rw [hw2.row.cell, rowOf_get _ _ _ (by decide)]⟩
                clear hw2 HRW
                have hcs : name = 63 ∨ name = 64 ∨ name = 65 ∨ name = 66 ∨ name = 67 ∨ name = 68 ∨ name = 69 := by omega
                rcases hcs with rfl | rfl | rfl | rfl | rfl | rfl | rfl
                all_goals
                  go_wp2_with fail
                  have hl := HLB.out
                  subst hl
                  clear HLB
                · refine ⟨⟨k + 1, Y, 16, by omega, by go_num, rfl, ?_, ?_, ?_⟩, by simp [intOf]; omega⟩
                  · rw [HN.out]; exact (HW2.out.set 0 (bitI pv 15)).turn.congr (h := bitI (stepV 63 pv pc true)) (fun k hk => shift_end 63 pv pc true q1.1 q1.2 q2.1 q2.2 k hk)
                  · rw [HN.out]; rfl
                  · rw [HN.out, if_neg (by omega)]
                · refine ⟨⟨k + 1, Y, 16, by omega, by go_num, rfl, ?_, ?_, ?_⟩, by simp [intOf]; omega⟩
                  · rw [HN.out]; exact (HW2.out.set 15 (bitI pv 0)).turn.congr (h := bitI (stepV 64 pv pc true)) (fun k hk => by rw [low_bit pv]; exact shift_end 64 pv pc true q1.1 q1.2 q2.1 q2.2 k hk)
                  · rw [HN.out]; exact congrArg (Value.int .i64) (low_bit pv)
                  · rw [HN.out, if_neg (by omega)]
                · refine ⟨⟨k + 1, Y, 16, by omega, by go_num, rfl, ?_, ?_, ?_⟩, by simp [intOf]; omega⟩
                  · rw [HN.out]; exact (HW2.out.set 0 pc).turn.congr (h := bitI (stepV 65 pv pc true)) (fun k hk => shift_end 65 pv pc true q1.1 q1.2 q2.1 q2.2 k hk)
                  · rw [HN.out]; rfl
                  · rw [HN.out, if_neg (by omega)]
                · refine ⟨⟨k + 1, Y, 16, by omega, by go_num, rfl, ?_, ?_, ?_⟩, by simp [intOf]; omega⟩
                  · rw [HN.out]; exact (HW2.out.set 15 pc).turn.congr (h := bitI (stepV 66 pv pc true)) (fun k hk => shift_end 66 pv pc true q1.1 q1.2 q2.1 q2.2 k hk)
                  · rw [HN.out]; exact congrArg (Value.int .i64) (low_bit pv)
                  · rw [HN.out, if_neg (by omega)]
                · refine ⟨⟨k + 1, Y, 16, by omega, by go_num, rfl, ?_, ?_, ?_⟩, by simp [intOf]; omega⟩
                  · rw [HN.out]; exact HW2.out.turn.congr (h := bitI (stepV 67 pv pc true)) (fun k hk => shift_end0 67 pv pc true rfl q1.1 q1.2 q2.1 q2.2 k hk)
                  · rw [HN.out]; rfl
                  · rw [HN.out, if_neg (by omega)]
                · refine ⟨⟨k + 1, Y, 16, by omega, by go_num, rfl, ?_, ?_, ?_⟩, by simp [intOf]; omega⟩
                  · rw [HN.out]; exact HW2.out.turn.congr (h := bitI (stepV 68 pv pc true)) (fun k hk => shift_end0 68 pv pc true rfl q1.1 q1.2 q2.1 q2.2 k hk)
                  · rw [HN.out]; exact congrArg (Value.int .i64) (low_bit pv)
                  · rw [HN.out, if_neg (by omega)]
                · refine ⟨⟨k + 1, Y, 16, by omega, by go_num, rfl, ?_, ?_, ?_⟩, by simp [intOf]; omega⟩
                  · rw [HN.out]; exact (HW2.out.set 15 (bitI pv 15)).turn.congr (h := bitI (stepV 69 pv pc true)) (fun k hk => shift_end 69 pv pc true q1.1 q1.2 q2.1 q2.2 k hk)
                  · rw [HN.out]; exact congrArg (Value.int .i64) (low_bit pv)
                  · rw [HN.out, if_neg (by omega)]
          · obtain rfl : k = n := by omega
            have c1 : ¬ ((k : Nat) : Int) < k := by omega
            have hk0 : ¬ k = 0 := by intro e; subst e; simp at b0
            rw [if_neg hk0]
            obtain ⟨q1, q2, q3⟩ := HPP.out k
            obtain ⟨p, hpk⟩ : ∃ p, PP k = p := ⟨_, rfl⟩
            have HPK := Lib.hid hpk
            rw [hpk] at q1 q2 q3 HGG hrd ⊢
            clear hpk
            obtain ⟨pv, pc, pa⟩ := p
            dsimp only at q1 q2 q3 HGG hrd ⊢
            have HR := Lib.hid hrd
            have hc15 := hrd.c 15 (by decide)
            have KOF := Lib.hid (refOf_any g 16 cap (bitI pv) wr (by decide) hrd.c (fun k hk => by have := bitI_in pv k; omega))
            rw [show ofBits (bitI pv) 16 = pv by rw [ofBits_bit]; have := q1; simp only [topW, if_true] at this; omega] at KOF
            have KSG := Lib.hid (fun w => refSigns_any pv true w q1.1 q1.2)
            have hs1 := sgn_bit pv true q1.1 q1.2
            have hs2 := sgn_bit pa true q3.1 q3.2
            rw [show sizeW true - 1 = 15 from rfl] at hs1 hs2
            have hbp := bitI_in pv 15
            have hba := bitI_in pa 15
            clear hrd HP0 HPS HPP hx hxe hw
            generalize sgnF pv true = sg at KSG hs1 HGG
            generalize sgnF pa true = sg2 at hs2 HGG
            generalize bitI pv 15 = bp at hbp hs1 hc15
            generalize bitI pa 15 = ba at hba hs2 ⊢
            by_cases ht : name ≤ 66 <;> by_cases hc : pc = 1 <;> by_cases hs : ba = bp
            all_goals
              have he := HGG.out
              have hse : (andW sg 128 = andW sg2 128) = (ba = bp) := by rw [hs1, hs2]; apply propext; omega
              simp only [hse] at he
              simp only [show 63 ≤ name from hn.1, ht, hs, and_self, and_false, true_and, if_true, if_false] at he
              have hgb : decide (67 ≤ name) = !decide (name ≤ 66) := by rw [Bool.eq_iff_iff]; simp; omega
              have hcb : (pc == 1) = decide (pc = 1) := rfl
              have hsb : (ba != bp) = !decide (ba = bp) := rfl
              first | rw [decide_eq_true ht] at hgb | rw [decide_eq_false ht] at hgb
              first | rw [decide_eq_true hc] at hcb | rw [decide_eq_false hc] at hcb
              first | rw [decide_eq_true hs] at hsb | rw [decide_eq_false hs] at hsb
              first | rw [if_pos hc] at he | rw [if_neg hc] at he
              have HE2 := Lib.hid he
              simp only [Bool.not_true, Bool.not_false] at hgb hsb
              clear he hc hs hse hs1 hs2 HGG hbp hba ht hn
              go_wp2_with fail
              refine (KOF.out).mono ?_
              rintro e w' ⟨rfl, rfl⟩; dsimp only
              go_wp2_with (go_at_call 70; with_reducible refine (KSG.out _).mono ?_; rintro e w' ⟨rfl, rfl⟩)
              go_ret2
              rw [HPK.out, HE2.out]
              exact ⟨rfl, HR.out.b⟩
end Go.Proofs.YtcglkefaopgjeaaGreatDoor

/- The reference of shifts: Shift of bytes: walk. -/
namespace Go.Proofs.YtcglkefaopgjeaaGreatDoor
set_option linter.unusedSimpArgs false
set_option linter.unusedVariables false
open Go.RowKit

set_option maxRecDepth 100000 in
set_option maxHeartbeats 6400000 in
theorem refShiftB_any (name a N : Int) (n : Nat) (hN : N = n) (was : Int) (w : World) (hn : 63 ≤ name ∧ name ≤ 69) (a0 : 0 ≤ a) (a1 : a ≤ 65535) (n1 : n ≤ 40) (hw : andW was 2261 = was) :
    Calls Tryz.prog 29 #[.int .i64 name, .int .u16 a, .int .i64 N, .int .u16 was, .bool false] w fun e w' => e = .returned (.tuple #[.int .u16 (shP name (cutW a false) was false n).1, .int .u16 (shG name (cutW a false) was false n)]) ∧ Below w.heap.size w w' := by
  subst hN
  have KS := Lib.hid (fun w => refSize_any false w)
  rw [show ((sizeW false : Nat) : Int) = 8 from rfl] at KS
  have KB := Lib.hid (fun k w (hk : k ≤ 8) => refBit_any a (k : Nat) k rfl w a0 a1 (by omega))
  have HI0 := Lib.hid (ints_new w)
  have hx := cut_in a false a0 a1
  obtain ⟨x, hxe⟩ : ∃ x, cutW a false = x := ⟨_, rfl⟩
  have hbx : ∀ k, k < 8 → bitI a k = bitI x k := by
    intro k hk
    rw [← hxe]
    have hc : k = 0 ∨ k = 1 ∨ k = 2 ∨ k = 3 ∨ k = 4 ∨ k = 5 ∨ k = 6 ∨ k = 7 := by omega
    unfold bitI cutW
    rcases hc with rfl | rfl | rfl | rfl | rfl | rfl | rfl | rfl <;> simp <;> omega
  rw [hxe] at hx ⊢
  have P := shP_wf name x was false hx.1 hx.2
  have HP0 := Lib.hid (show shP name x was false 0 = (x, ifI (andW was 1 != 0) 1, x) from rfl)
  have HPS := Lib.hid (fun k => (show shP name x was false (k + 1) = (stepV name (shP name x was false k).1 (shP name x was false k).2.1 false, stepC name (shP name x was false k).1 false, (shP name x was false k).1) from rfl))
  have HG0 := Lib.hid (show n = 0 → shG name x was false n = was from fun h => by rw [shG, if_pos h])
  have HG := Lib.hid (show ¬ n = 0 → shG name x was false n = (let p := shP name x was false n; let f1 := andNotW (if 63 ≤ name ∧ name ≤ 66 then was else sgnF p.1 false) 2049; let f2 := if p.2.1 = 1 then orW f1 1 else f1; if andW (sgnF p.1 false) 128 = andW (sgnF p.2.2 false) 128 then f2 else orW f2 2048) from fun h => by rw [shG, if_neg h]; rfl)
  generalize shG name x was false n = G at HG HG0 ⊢
  generalize shP name x was false = PP at P HP0 HPS HG ⊢
  have HPP := Lib.hid P
  have HBX := Lib.hid hbx
  clear P hbx
  go_enter Tryz.func29, Tryz.ntmps29
  go_wp2_with fail
  refine (KS.out _).mono ?_
  rintro e w' ⟨rfl, rfl⟩; dsimp only
  go_wp2_with fail
  go_loopw [13, 14] (fun s13 s14 wr => ∃ k : Nat, k ≤ 8 ∧ s14 = .int .i64 k ∧ Ints w wr s13 (bitsL a k)) (fun _ s14 _ => 8 - (intOf s14).toNat)
  case atStart => exact ⟨0, by omega, rfl, HI0.out⟩
  case round =>
    obtain ⟨k, hk, rfl, hi⟩ := hrel
    have HI := Lib.hid hi
    clear hi HI0
    by_cases hlt : k < 8
    · have c1 : ((k : Nat) : Int) < 8 := by omega
      have KB1 := Lib.hid (fun w => KB.out k w (by omega))
      have HBL := Lib.hid (bitsL_step a k)
      go_wp2_with fail
      refine (KB1.out _).mono ?_
      rintro e w' ⟨rfl, rfl⟩; dsimp only
      go_wp2_with (at_builtin; go_loud (refine wpList_pushI rfl _ _ rfl rfl (HI.out.alloc _) ⟨_, 0, none⟩ 1 1 [_] rfl rfl (one_cellI _ _) (by rw [bitsL_len]; omega) ?_; intro v' w1 HPN)); go_wp2_with fail
      rw [HBL.out] at HPN
      exact ⟨⟨k + 1, by omega, by go_num, HPN⟩, by simp [intOf]; omega⟩
    · have hkn : k = 8 := by omega
      subst hkn
      have c1 : ¬ ((8 : Nat) : Int) < 8 := by omega
      obtain ⟨g, cap, hv, hcells⟩ := HI.out.done (by rw [bitsL_len]; decide)
      rw [bitsL_len] at hv hcells
      have hb := HI.out.b
      subst hv
      have hcl : ∀ k, k < 8 → wr.cell? ⟨g, k, none⟩ = some (.int .i64 (bitI x k)) := fun k hk => by rw [hcells k hk, bitsL_get _ _ _ hk, HBX.out k hk]
      clear hcells HI KB HBX
      have hgl : g < wr.heap.size := by
        exact lt_of_cell (hcl 0 (by decide))
      have HRD := Lib.hid (Rd.mk hb hgl hcl)
      clear hcl hgl hb
      by_cases h0 : n = 0
      · subst h0
        have KOF := Lib.hid (refOf_any g 8 cap (bitI x) wr (by decide) HRD.out.c (fun k hk => by have := bitI_in x k; omega))
        rw [show ofBits (bitI x) 8 = x by rw [ofBits_bit]; have := hx.2; simp only [topW, Bool.false_eq_true, if_false] at this; omega] at KOF
        have HGG := Lib.hid (HG0.out rfl)
        clear HG HG0
        go_wp2_with fail
        refine KOF.out.mono ?_
        rintro e w' ⟨rfl, rfl⟩; dsimp only
        go_wp2_with fail
        go_ret2
        rw [HP0.out, HGG.out]
        exact ⟨rfl, HRD.out.b⟩
      · have b0 : ((n : Int) == 0) = false := by simp; omega
        have HGG := Lib.hid (HG.out h0)
        clear HG HG0 h0
        obtain ⟨cb, hcb⟩ : ∃ b, (andW was 1 != 0) = b := ⟨_, rfl⟩
        have hgt : decide (0 < andW was 1) = cb := by rw [← hcb]; have := w_and_lo was 1; rw [Bool.eq_iff_iff]; simp; omega
        rw [hcb] at HP0
        clear hcb
        go_upto_if 47 with fail
        obtain ⟨wo, hwo⟩ : ∃ wo, wo = wr := ⟨_, rfl⟩
        subst hwo
        go_cut [16] (fun s16 wx => wo = wx ∧ s16 = .int .i64 (ifI cb 1))
        case first =>
          cases cb
          · go_wp2_with fail
            go_meet
            exact ⟨rfl, rfl⟩
          · go_wp2_with fail
            go_meet
            exact ⟨rfl, rfl⟩
        case rest =>
        obtain ⟨rfl, rfl⟩ := hcut
        clear hgt
        have HRD0 := HRD.out
        go_wp2_with fail
        go_loopw [13, 16, 17, 18] (fun s13 s16 s17 s18 wr => ∃ k g cap : Nat, k ≤ n ∧ s18 = .int .i64 k ∧ s13 = .slice (some ⟨g, 0, none⟩) 8 cap ∧ Rd w wr 8 g (bitI (PP k).1) ∧ s16 = .int .i64 (PP k).2.1 ∧ s17 = .int .i64 (if k = 0 then 0 else bitI (PP k).2.2 7)) (fun _ _ _ s18 _ => n - (intOf s18).toNat)
        case atStart => exact ⟨0, g, cap, by omega, rfl, rfl, by rw [HP0.out]; exact HRD.out, by rw [HP0.out], rfl⟩
        case round =>
          clear HRD HRD0
          obtain ⟨k, g, cap, hk, rfl, rfl, hrd, rfl, rfl⟩ := hrel
          by_cases hlt : k < n
          · have c1 : ((k : Nat) : Int) < n := by omega
            obtain ⟨q1, q2, q3⟩ := HPP.out k
            have HN := Lib.hid (HPS.out k)
            obtain ⟨p, hpk⟩ : ∃ p, PP k = p := ⟨_, rfl⟩
            have HPK := Lib.hid hpk
            rw [hpk] at q1 q2 q3 HN hrd ⊢
            clear hpk
            obtain ⟨pv, pc, pa⟩ := p
            dsimp only at q1 q2 q3 HN hrd ⊢
            have HR := Lib.hid hrd
            have hc0 := hrd.c 0 (by decide)
            have hc7 := hrd.c 7 (by decide)
            clear hrd HP0 HPS HGG HPP
            go_upto_region 17 with fail
            go_cut [19, 20] (fun s19 s20 wx => Rd w wx 8 g (bitI pv) ∧ s19 = .int .i64 (bitI pv 0) ∧ s20 = .int .i64 (bitI pv 7))
            case first =>
              go_region
              all_goals
                go_wp2_with fail
                go_meet
                exact ⟨HR.out.below (Below.refl _ _).drew, rfl, rfl⟩
            case rest =>
            obtain ⟨hrd, rfl, rfl⟩ := hcut
            have HR := Lib.hid hrd
            have hmk := fun w => run_makeInts w 8 8 rfl (by decide)
            have HNW := Lib.hid (hrd.new (fun _ => 0))
            clear hrd
            go_wp2_with fail
            generalize wc.heap.size = Y at HNW ⊢
            obtain ⟨lb, hlb⟩ : ∃ b, leftB name = b := ⟨_, rfl⟩
            have HLB := Lib.hid hlb
            go_loopw [22] (fun s22 wr => ∃ i : Nat, i ≤ 8 ∧ s22 = .int .i64 i ∧ RdWr w wr 8 g (bitI pv) Y (fun j => if j < i then shiftF lb 8 pv j else 0)) (fun s22 _ => 8 - (intOf s22).toNat)
            case atStart => exact ⟨0, by omega, rfl, HNW.out.congr (fun k _ => by simp)⟩
            case round =>
              clear HNW hmk HR
              obtain ⟨i, hi, rfl, hrw⟩ := hrel
              have HRW := Lib.hid hrw
              have hcl := hrw.r.c
              have hfz := hrw.row.frozen
              have hyc := hrw.row.cell
              clear hrw
              by_cases hil : i < 8
              · have c2 : ((i : Nat) : Int) < 8 := by omega
                go_upto_region 22 with fail
                obtain ⟨wo, hwo⟩ : ∃ wo, wo = wr := ⟨_, rfl⟩
                subst hwo
                go_cut [73] (fun s73 wx => wo = wx ∧ s73 = .bool lb)
                case first =>
                  subst hlb
                  clear hcl hfz hyc
                  have hcs : name = 63 ∨ name = 64 ∨ name = 65 ∨ name = 66 ∨ name = 67 ∨ name = 68 ∨ name = 69 := by omega
                  rcases hcs with rfl | rfl | rfl | rfl | rfl | rfl | rfl
                  all_goals
                    go_wp2_with fail
                    go_meet
                    exact ⟨rfl, rfl⟩
                case rest =>
                obtain ⟨rfl, rfl⟩ := hcut
                cases lb with
                | true =>
                  by_cases h0 : i = 0
                  · subst h0
                    clear hyc
                    go_wp2_with fail
                    refine ⟨⟨1, by omega, by go_num, HRW.out.congr fun k _ => inner_skip true 8 pv 0 rfl k⟩, by simp [intOf]⟩
                  · obtain ⟨m, rfl⟩ : ∃ m, i = m + 1 := ⟨i - 1, by omega⟩
                    have hm := hcl m (by omega)
                    obtain ⟨old, hym⟩ : ∃ o, wo.cell? ⟨Y, m + 1, none⟩ = some (.int .i64 o) := ⟨_, by rw [hyc, rowOf_get _ _ _ hil]⟩
                    have hfm := hfz (m + 1)
                    clear hyc
                    go_wp2_with fail
                    refine ⟨⟨m + 2, by omega, by go_num, (HRW.out.set (m + 1) (bitI pv m)).congr fun k _ => inner_store true 8 pv (bitI pv m) (m + 1) (by simp [shiftF]) k⟩, by simp [intOf]; omega⟩
                | false =>
                  by_cases h0 : i = 7
                  · subst h0
                    clear hyc
                    go_wp2_with fail
                    refine ⟨⟨8, by omega, by go_num, HRW.out.congr fun k _ => inner_skip false 8 pv 7 rfl k⟩, by simp [intOf]⟩
                  · have c3 : ((i : Nat) : Int) < 7 := by omega
                    have hm := hcl (i + 1) (by omega)
                    obtain ⟨old, hym⟩ : ∃ o, wo.cell? ⟨Y, i, none⟩ = some (.int .i64 o) := ⟨_, by rw [hyc, rowOf_get _ _ _ hil]⟩
                    have hfm := hfz i
                    clear hyc
                    go_wp2_with fail
                    refine ⟨⟨i + 1, by omega, by go_num, (HRW.out.set i (bitI pv (i + 1))).congr fun k _ => inner_store false 8 pv (bitI pv (i + 1)) i (by simp [shiftF]; omega) k⟩, by simp [intOf]; omega⟩
              · obtain rfl : i = 8 := by omega
                clear hyc hfz hcl
                have hw2 := HRW.out.congr (h2 := shiftF lb 8 pv) (fun k hk => by rw [if_pos hk])
                have HW2 := Lib.hid hw2
                have hf0 := hw2.row.frozen 0
                have hf7 := hw2.row.frozen 7
                obtain ⟨o0, hy0⟩ : ∃ o, wr.cell? ⟨Y, 0, none⟩ = some (.int .i64 o) := ⟨_, by rw [hw2.row.cell, rowOf_get _ _ _ (by decide)]⟩
                obtain ⟨o7, hy7⟩ : ∃ o, wr.cell? ⟨Y, 7, none⟩ = some (.int .i64 o) := ⟨_, by rw [hw2.row.cell, rowOf_get _ _ _ (by decide)]⟩
                clear hw2 HRW
                have hcs : name = 63 ∨ name = 64 ∨ name = 65 ∨ name = 66 ∨ name = 67 ∨ name = 68 ∨ name = 69 := by omega
                rcases hcs with rfl | rfl | rfl | rfl | rfl | rfl | rfl
                all_goals
                  go_wp2_with fail
                  have hl := HLB.out
                  subst hl
                  clear HLB
                · refine ⟨⟨k + 1, Y, 8, by omega, by go_num, rfl, ?_, ?_, ?_⟩, by simp [intOf]; omega⟩
                  · rw [HN.out]; exact (HW2.out.set 0 (bitI pv 7)).turn.congr (h := bitI (stepV 63 pv pc false)) (fun k hk => shift_end 63 pv pc false q1.1 q1.2 q2.1 q2.2 k hk)
                  · rw [HN.out]; rfl
                  · rw [HN.out, if_neg (by omega)]
                · refine ⟨⟨k + 1, Y, 8, by omega, by go_num, rfl, ?_, ?_, ?_⟩, by simp [intOf]; omega⟩
                  · rw [HN.out]; exact (HW2.out.set 7 (bitI pv 0)).turn.congr (h := bitI (stepV 64 pv pc false)) (fun k hk => by rw [low_bit pv]; exact shift_end 64 pv pc false q1.1 q1.2 q2.1 q2.2 k hk)
                  · rw [HN.out]; exact congrArg (Value.int .i64) (low_bit pv)
                  · rw [HN.out, if_neg (by omega)]
                · refine ⟨⟨k + 1, Y, 8, by omega, by go_num, rfl, ?_, ?_, ?_⟩, by simp [intOf]; omega⟩
                  · rw [HN.out]; exact (HW2.out.set 0 pc).turn.congr (h := bitI (stepV 65 pv pc false)) (fun k hk => shift_end 65 pv pc false q1.1 q1.2 q2.1 q2.2 k hk)
                  · rw [HN.out]; rfl
                  · rw [HN.out, if_neg (by omega)]
                · refine ⟨⟨k + 1, Y, 8, by omega, by go_num, rfl, ?_, ?_, ?_⟩, by simp [intOf]; omega⟩
                  · rw [HN.out]; exact (HW2.out.set 7 pc).turn.congr (h := bitI (stepV 66 pv pc false)) (fun k hk => shift_end 66 pv pc false q1.1 q1.2 q2.1 q2.2 k hk)
                  · rw [HN.out]; exact congrArg (Value.int .i64) (low_bit pv)
                  · rw [HN.out, if_neg (by omega)]
                · refine ⟨⟨k + 1, Y, 8, by omega, by go_num, rfl, ?_, ?_, ?_⟩, by simp [intOf]; omega⟩
                  · rw [HN.out]; exact HW2.out.turn.congr (h := bitI (stepV 67 pv pc false)) (fun k hk => shift_end0 67 pv pc false rfl q1.1 q1.2 q2.1 q2.2 k hk)
                  · rw [HN.out]; rfl
                  · rw [HN.out, if_neg (by omega)]
                · refine ⟨⟨k + 1, Y, 8, by omega, by go_num, rfl, ?_, ?_, ?_⟩, by simp [intOf]; omega⟩
                  · rw [HN.out]; exact HW2.out.turn.congr (h := bitI (stepV 68 pv pc false)) (fun k hk => shift_end0 68 pv pc false rfl q1.1 q1.2 q2.1 q2.2 k hk)
                  · rw [HN.out]; exact congrArg (Value.int .i64) (low_bit pv)
                  · rw [HN.out, if_neg (by omega)]
                · refine ⟨⟨k + 1, Y, 8, by omega, by go_num, rfl, ?_, ?_, ?_⟩, by simp [intOf]; omega⟩
                  · rw [HN.out]; exact (HW2.out.set 7 (bitI pv 7)).turn.congr (h := bitI (stepV 69 pv pc false)) (fun k hk => shift_end 69 pv pc false q1.1 q1.2 q2.1 q2.2 k hk)
                  · rw [HN.out]; exact congrArg (Value.int .i64) (low_bit pv)
                  · rw [HN.out, if_neg (by omega)]
          · obtain rfl : k = n := by omega
            have c1 : ¬ ((k : Nat) : Int) < k := by omega
            have hk0 : ¬ k = 0 := by intro e; subst e; simp at b0
            rw [if_neg hk0]
            obtain ⟨q1, q2, q3⟩ := HPP.out k
            obtain ⟨p, hpk⟩ : ∃ p, PP k = p := ⟨_, rfl⟩
            have HPK := Lib.hid hpk
            rw [hpk] at q1 q2 q3 HGG hrd ⊢
            clear hpk
            obtain ⟨pv, pc, pa⟩ := p
            dsimp only at q1 q2 q3 HGG hrd ⊢
            have HR := Lib.hid hrd
            have hc7 := hrd.c 7 (by decide)
            have KOF := Lib.hid (refOf_any g 8 cap (bitI pv) wr (by decide) hrd.c (fun k hk => by have := bitI_in pv k; omega))
            rw [show ofBits (bitI pv) 8 = pv by rw [ofBits_bit]; have := q1; simp only [topW, Bool.false_eq_true, if_false] at this; omega] at KOF
            have KSG := Lib.hid (fun w => refSigns_any pv false w q1.1 q1.2)
            have hs1 := sgn_bit pv false q1.1 q1.2
            have hs2 := sgn_bit pa false q3.1 q3.2
            rw [show sizeW false - 1 = 7 from rfl] at hs1 hs2
            have hbp := bitI_in pv 7
            have hba := bitI_in pa 7
            clear hrd HP0 HPS HPP hx hxe hw
            generalize sgnF pv false = sg at KSG hs1 HGG
            generalize sgnF pa false = sg2 at hs2 HGG
            generalize bitI pv 7 = bp at hbp hs1 hc7
            generalize bitI pa 7 = ba at hba hs2 ⊢
            by_cases ht : name ≤ 66 <;> by_cases hc : pc = 1 <;> by_cases hs : ba = bp
            all_goals
              have he := HGG.out
              have hse : (andW sg 128 = andW sg2 128) = (ba = bp) := by rw [hs1, hs2]; apply propext; omega
              simp only [hse] at he
              simp only [show 63 ≤ name from hn.1, ht, hs, and_self, and_false, true_and, if_true, if_false] at he
              have hgb : decide (67 ≤ name) = !decide (name ≤ 66) := by rw [Bool.eq_iff_iff]; simp; omega
              have hcb : (pc == 1) = decide (pc = 1) := rfl
              have hsb : (ba != bp) = !decide (ba = bp) := rfl
              first | rw [decide_eq_true ht] at hgb | rw [decide_eq_false ht] at hgb
              first | rw [decide_eq_true hc] at hcb | rw [decide_eq_false hc] at hcb
              first | rw [decide_eq_true hs] at hsb | rw [decide_eq_false hs] at hsb
              first | rw [if_pos hc] at he | rw [if_neg hc] at he
              have HE2 := Lib.hid he
              simp only [Bool.not_true, Bool.not_false] at hgb hsb
              clear he hc hs hse hs1 hs2 HGG hbp hba ht hn
              go_wp2_with fail
              refine (KOF.out).mono ?_
              rintro e w' ⟨rfl, rfl⟩; dsimp only
              go_wp2_with (go_at_call 70; with_reducible refine (KSG.out _).mono ?_; rintro e w' ⟨rfl, rfl⟩)
              go_ret2
              rw [HPK.out, HE2.out]
              exact ⟨rfl, HR.out.b⟩
end Go.Proofs.YtcglkefaopgjeaaGreatDoor
