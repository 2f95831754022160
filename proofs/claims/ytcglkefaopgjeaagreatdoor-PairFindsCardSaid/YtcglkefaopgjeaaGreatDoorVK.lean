/- Parts of the proof, in one text: YtcglkefaopgjeaaGreatDoorK1 YtcglkefaopgjeaaGreatDoorK2 YtcglkefaopgjeaaGreatDoorK3 YtcglkefaopgjeaaGreatDoorK4 YtcglkefaopgjeaaGreatDoorK5 YtcglkefaopgjeaaGreatDoorK6 YtcglkefaopgjeaaGreatDoorK7 YtcglkefaopgjeaaGreatDoorK8 YtcglkefaopgjeaaGreatDoorK9 YtcglkefaopgjeaaGreatDoorKA YtcglkefaopgjeaaGreatDoorKB YtcglkefaopgjeaaGreatDoorKC YtcglkefaopgjeaaGreatDoorPN. Each part's own remark says what it proves; conditions: those of each theorem. -/
import Derived.Test.YtcglkefaopgjeaaGreatDoorV2
import Derived.Test.YtcglkefaopgjeaaGreatDoorJ4
import Derived.StillTailTactics
import Derived.Test.YtcglkefaopgjeaaGreatDoorD6
import Derived.Test.YtcglkefaopgjeaaGreatDoorV4
import Derived.Test.YtcglkefaopgjeaaGreatDoorH3
import Derived.Test.YtcglkefaopgjeaaGreatDoorP0

/- Packages bits, mz, load: what a program needs and whether it may be: walks. -/
namespace Go.Proofs.YtcglkefaopgjeaaGreatDoor
set_option linter.unusedSimpArgs false
set_option linter.unusedVariables false
open Go.RowKit

/-- A row of numbers behind a slice. -/
def SlAt (w : World) (f : Int → Value) (a : Option Addr) (l : List Int) : Prop := ∀ k, k < l.length → ∃ g, a = some ⟨g, 0, none⟩ ∧ g < w.heap.size ∧ w.cell? ⟨g, k, none⟩ = some (f (l.getD k 0))
theorem SlAt.below {w w' : World} {f : Int → Value} {a : Option Addr} {l : List Int} (h : SlAt w f a l) (hb : Below w.heap.size w w') : SlAt w' f a l := by
  intro k hk
  obtain ⟨g, e, lt, c⟩ := h k hk
  refine ⟨g, e, Nat.lt_of_lt_of_le lt hb.size, ?_⟩
  have hbl := hb.block g lt
  unfold World.cell? at c ⊢
  simp only [hbl] at c ⊢
  exact c
theorem SlAt.alloc {w : World} {f : Int → Value} {a : Option Addr} {l : List Int} (h : SlAt w f a l) (o : Obj) : SlAt (w.alloc o) f a l := h.below ((Below.refl _ _).alloc (Nat.le_refl _) o)
theorem SlAt.drew {w : World} {f : Int → Value} {a : Option Addr} {l : List Int} (h : SlAt w f a l) : SlAt w.drew f a l := h.below (Below.refl _ _).drew
/-- A program, and where its rows lie. -/
structure Img where
  ba : Option Addr
  bc : Nat
  ra : Option Addr
  rc : Nat
  bytes : List Int
  relocs : List Int
  cs : Int
  ip : Int
  ss : Int
  sp : Int
  min : Int
abbrev Img.cells (x : Img) : Array Value := #[.slice x.ba x.bytes.length x.bc, .slice x.ra x.relocs.length x.rc, .int .u16 x.cs, .int .u16 x.ip, .int .u16 x.ss, .int .u16 x.sp, .int .i64 x.min]
abbrev Img.val (x : Img) : Value := .agg x.cells
structure ImgAt (w : World) (x : Img) : Prop where
  b : SlAt w (.int .u8) x.ba x.bytes
  r : SlAt w (.int .i64) x.ra x.relocs
theorem ImgAt.below {w w' : World} {x : Img} (h : ImgAt w x) (hb : Below w.heap.size w w') : ImgAt w' x := ⟨h.b.below hb, h.r.below hb⟩
theorem ImgAt.alloc {w : World} {x : Img} (h : ImgAt w x) (o : Obj) : ImgAt (w.alloc o) x := ⟨h.b.alloc o, h.r.alloc o⟩
theorem ImgAt.drew {w : World} {x : Img} (h : ImgAt w x) : ImgAt w.drew x := ⟨h.b.drew, h.r.drew⟩
def parasN (n : Int) : Int := if n < 1 then 0 else (n - 1) / 16 + 1
theorem parasN_in (n : Int) (h : n ≤ 1000000) : 0 ≤ parasN n ∧ parasN n ≤ 62500 := by unfold parasN; split <;> omega
/-- A program that may be. -/
structure Img.ok (x : Img) : Prop where
  by_ : ∀ k, 0 ≤ x.bytes.getD k 0 ∧ x.bytes.getD k 0 ≤ 255
  len : x.bytes.length ≤ 60000
  min0 : 0 ≤ x.min
  min1 : x.min ≤ 30000
  many : x.relocs.length ≤ 4000
  at_ : ∀ k, k < x.relocs.length → 0 ≤ x.relocs.getD k 0 ∧ x.relocs.getD k 0 ≤ x.bytes.length - 2
  far : ∀ k, k + 1 < x.relocs.length → 2 ≤ x.relocs.getD (k + 1) 0 - x.relocs.getD k 0
  w : (0 ≤ x.cs ∧ x.cs ≤ 65535) ∧ (0 ≤ x.ip ∧ x.ip ≤ 65535) ∧ (0 ≤ x.ss ∧ x.ss ≤ 65535) ∧ (0 ≤ x.sp ∧ x.sp ≤ 65535)
def Img.size (x : Img) : Int := 256 + (parasN x.bytes.length + x.min) * 16

set_option maxHeartbeats 400000 in
theorem paras_any (n : Int) (w : World) (h0 : 0 ≤ n) (h1 : n ≤ 1000000) : Calls Tryz.prog 192 #[.int .i64 n] w fun e w' => e = .returned (.int .i64 (parasN n)) ∧ w = w' := by
  by_cases h : n < 1
  · have e : parasN n = 0 := if_pos h
    rw [e]
    go_enter Tryz.func192, Tryz.ntmps192
    go_wp2_with fail
    go_ret
    exact ⟨rfl, rfl⟩
  · have e : (n - 1) / 16 + 1 = parasN n := (if_neg h).symm
    have E := Lib.hid e
    have h2 : 1 ≤ n := by omega
    clear e
    go_enter Tryz.func192, Tryz.ntmps192
    go_wp2_with fail
    go_ret
    rw [← E.out]
    refine ⟨?_, rfl⟩
    first | rfl | (congr 2; simp only [wrap64]; omega)

set_option maxHeartbeats 400000 in
theorem normal_any (n : Int) (w : World) (h0 : 0 ≤ n) (h1 : n ≤ 1048575) : Calls Tryz.prog 136 #[.int .u32 n] w fun e w' => e = .returned (.tuple #[.int .u16 (n / 16), .int .u16 (n % 16)]) ∧ w = w' := by
  have e1 : bits .and .u32 n 1048575 = n := by
    rw [u32_and _ _ (by omega) (by omega) (by omega) (by omega)]
    show ((n.toNat &&& 1048575 : Nat) : Int) = _
    rw [nat_mask20]
    omega
  have e2 : bits .and .u32 n 15 = n % 16 := by
    rw [u32_and _ _ (by omega) (by omega) (by omega) (by omega)]
    show ((n.toNat &&& (2 ^ 4 - 1) : Nat) : Int) = _
    rw [Nat.and_two_pow_sub_one_eq_mod]
    omega
  go_enter Tryz.func136, Tryz.ntmps136
  go_wp2_with fail
  go_ret2
  refine ⟨?_, rfl⟩
  first | rfl | (congr 4 <;> (simp only [IntKind.wrap_u16]; omega))

def tokV (para n : Int) : V := ⟨(para + 16 + n) % 65536, true⟩
set_option maxHeartbeats 400000 in
theorem token_any (para n : Int) (w : World) : Calls Tryz.prog 137 #[.int .u16 para, .int .u16 n] w fun e w' => e = .returned (tokV para n).val ∧ Below w.heap.size w w' := by
  go_enter Tryz.func137, Tryz.ntmps137
  go_wp2_with fail
  have e : IntKind.u16.wrap (IntKind.u16.wrap (para + 16) + n) = (para + 16 + n) % 65536 := by simp only [IntKind.wrap_u16]; omega
  rw [e]
  refine bodyPost_ret (results_row rfl _ _ _ _ _ _ rfl (Row.new w #[.int .u16 ((para + 16 + n) % 65536), .bool true] 24) Tryz.underlying24 rfl (by kernel_rfl)) rfl ⟨rfl, ?_⟩
  exact (Below.refl w.heap.size w).alloc (Nat.le_refl _) _

theorem imgRow {w : World} {x : Img} {B : Nat} (h : Row w B x.cells 78) (j : Nat) : w.cell? ⟨B, j, none⟩ = x.cells[j]? := h.cell j

set_option maxRecDepth 100000 in
set_option maxHeartbeats 800000 in
theorem size_any (x : Img) (w : World) (hx : x.ok) : Calls Tryz.prog 138 #[x.val] w fun e w' => e = .returned (.int .i64 x.size) ∧ Below w.heap.size w w' := by
  obtain ⟨ba, bc, ra, rc, bytes, relocs, cs, ip, ss, sp, min⟩ := x
  have hl := hx.len
  have m0 := hx.min0
  have m1 := hx.min1
  dsimp only at hl m0 m1
  obtain ⟨N, hN⟩ : ∃ N : Nat, bytes.length = N := ⟨_, rfl⟩
  have hp := parasN_in N (by omega)
  have KP := Lib.hid (fun w => paras_any N w (by omega) (by omega))
  have E := Lib.hid (show (256 : Int) + (parasN N + min) * 16 = Img.size ⟨ba, bc, ra, rc, bytes, relocs, cs, ip, ss, sp, min⟩ by rw [Img.size]; dsimp only; rw [hN])
  have hrow := Row.new w #[.slice ba N bc, .slice ra relocs.length rc, .int .u16 cs, .int .u16 ip, .int .u16 ss, .int .u16 sp, .int .i64 min] 78
  have xc := hrow.cell
  have HB := Lib.hid ((Below.refl w.heap.size w).alloc (Nat.le_refl _) (.cells #[.slice ba N bc, .slice ra relocs.length rc, .int .u16 cs, .int .u16 ip, .int .u16 ss, .int .u16 sp, .int .i64 min] 78))
  dsimp only [Img.cells, Img.val]
  rw [hN]
  clear hx hrow hl hN
  generalize parasN N = P at KP E hp
  have h1 : P + min ≤ 100000 := by omega
  have h2 : 0 ≤ P + min := by omega
  have E1 := Lib.hid (show IntKind.i64.wrap (P + min) = P + min by rw [IntKind.wrap_i64]; omega)
  have E2 := Lib.hid (show IntKind.i64.wrap ((P + min) * 16) = (P + min) * 16 by rw [IntKind.wrap_i64]; omega)
  have E3 := Lib.hid (show IntKind.i64.wrap (256 + (P + min) * 16) = 256 + (P + min) * 16 by rw [IntKind.wrap_i64]; omega)
  go_enter Tryz.func138, Tryz.ntmps138
  go_upto_region 1 with fail
  generalize w.alloc (.cells #[.slice ba N bc, .slice ra relocs.length rc, .int .u16 cs, .int .u16 ip, .int .u16 ss, .int .u16 sp, .int .i64 min] 78) = W0 at xc HB ⊢
  go_region_held3 (fun w' => ∀ k, w'.cell? ⟨w.heap.size, k, none⟩ = (#[.slice ba N bc, .slice ra relocs.length rc, .int .u16 cs, .int .u16 ip, .int .u16 ss, .int .u16 sp, .int .i64 min] : Array Value)[k]?) (go_keep) ((go_at_call 192; with_reducible refine (KP.out _).mono ?_; rintro e w' ⟨rfl, rfl⟩))
  all_goals
    go_wp2_with fail
    go_ret
    rw [← E.out]
    refine ⟨?_, HB.out.drew⟩
    show Ending.returned (.int .i64 (IntKind.i64.wrap (256 + IntKind.i64.wrap (IntKind.i64.wrap (P + min) * 16)))) = _
    rw [E1.out, E2.out, E3.out]

set_option maxRecDepth 100000 in
set_option maxHeartbeats 3200000 in
theorem may_img (x : Img) (w : World) (hx : x.ok) (hi : ImgAt w x) : Calls Tryz.prog 132 #[x.val] w fun e w' => e = .returned (.bool true) ∧ Below w.heap.size w w' := by
  obtain ⟨ba, bc, ra, rc, bytes, relocs, cs, ip, ss, sp, min⟩ := x
  have hl := hx.len
  have m0 := hx.min0
  have m1 := hx.min1
  have hm := hx.many
  have HAT := Lib.hid hx.at_
  have HFAR := Lib.hid hx.far
  dsimp only at hl m0 m1 hm HAT HFAR
  have HRS := Lib.hid hi.r
  dsimp only at HRS
  obtain ⟨N, hN⟩ : ∃ N : Nat, bytes.length = N := ⟨_, rfl⟩
  obtain ⟨M, hM⟩ : ∃ M : Nat, relocs.length = M := ⟨_, rfl⟩
  have hp := parasN_in N (by omega)
  have KP := Lib.hid (fun w => paras_any N w (by omega) (by omega))
  have hrow := Row.new w #[.slice ba N bc, .slice ra M rc, .int .u16 cs, .int .u16 ip, .int .u16 ss, .int .u16 sp, .int .i64 min] 78
  have xc := hrow.cell
  have HB := Lib.hid ((Below.refl w.heap.size w).alloc (Nat.le_refl _) (.cells #[.slice ba N bc, .slice ra M rc, .int .u16 cs, .int .u16 ip, .int .u16 ss, .int .u16 sp, .int .i64 min] 78))
  have HS := Lib.hid (HRS.out.alloc (.cells #[.slice ba N bc, .slice ra M rc, .int .u16 cs, .int .u16 ip, .int .u16 ss, .int .u16 sp, .int .i64 min] 78))
  unfold SlAt at HS
  rw [hM] at HS hm HAT HFAR
  rw [hN] at hl HAT
  dsimp only [Img.cells, Img.val]
  rw [hN, hM]
  have hPb : parasN N ≤ 3760 := by unfold parasN; split <;> omega
  generalize parasN N = P at KP hp hPb
  have d1 : decide (655360 < (N : Int)) = false := by simp; omega
  have d2 : decide (min < 0) = false := by simp; omega
  have d3 : decide (IntKind.i64.wrap (40960 - P) < min) = false := by
    have e : IntKind.i64.wrap (40960 - P) = 40960 - P := by rw [IntKind.wrap_i64]; omega
    rw [e]; simp; omega
  have d4 : decide (4000 < (M : Int)) = false := by simp; omega
  clear hx hrow hN hi HRS
  go_enter Tryz.func132, Tryz.ntmps132
  go_upto_region 1 with fail
  generalize w.alloc (.cells #[.slice ba N bc, .slice ra M rc, .int .u16 cs, .int .u16 ip, .int .u16 ss, .int .u16 sp, .int .i64 min] 78) = W0 at xc HB HS ⊢
  go_cut [29] (fun s29 wx => s29 = .bool false ∧ wx = W0.drew)
  case first =>
    go_region_held3 (fun w' => ∀ k, w'.cell? ⟨w.heap.size, k, none⟩ = (#[.slice ba N bc, .slice ra M rc, .int .u16 cs, .int .u16 ip, .int .u16 ss, .int .u16 sp, .int .i64 min] : Array Value)[k]?) (go_keep) ((go_at_call 192; with_reducible refine (KP.out _).mono ?_; rintro e w' ⟨rfl, rfl⟩))
    all_goals
      go_wp2_with fail
      go_meet
      exact ⟨rfl, rfl⟩
  case rest =>
  obtain ⟨rfl, rfl⟩ := hcut
  have HS1 := Lib.hid (fun k (h : k < M) => (show SlAt W0 (.int .i64) ra relocs from fun k hk => HS.out k (hM ▸ hk)).drew k (hM.symm ▸ h))
  have HB1 := Lib.hid HB.out.drew
  have xc1 : ∀ k, W0.drew.cell? ⟨w.heap.size, k, none⟩ = #[.slice ba N bc, .slice ra M rc, .int .u16 cs, .int .u16 ip, .int .u16 ss, .int .u16 sp, .int .i64 min][k]? := xc
  clear HS HB xc hM
  generalize W0.drew = W1 at HS1 HB1 xc1 ⊢
  go_wp2_with fail
  go_loopw [33] (fun s33 wr => ∃ k : Nat, k ≤ M ∧ s33 = .int .i64 k ∧ wr = W1) (fun s33 _ => M - (intOf s33).toNat)
  case atStart => exact ⟨0, by omega, rfl, rfl⟩
  case round =>
    obtain ⟨k, hk, rfl, rfl⟩ := hrel
    by_cases hlt : k < M
    · have c1 : ((k : Nat) : Int) < M := by omega
      obtain ⟨g, rfl, gl, gc⟩ := HS1.out k hlt
      obtain ⟨q0, q1⟩ := HAT.out k hlt
      have d5 : ¬ relocs.getD k 0 < 0 := by omega
      have d6 : ¬ (N : Int) - 2 < relocs.getD k 0 := by omega
      cases k with
      | zero =>
        generalize relocs.getD 0 0 = r at d5 d6 gc q0 q1
        go_wp2_with fail
        refine ⟨⟨1, by omega, by go_num, trivial⟩, by simp [intOf]; omega⟩
      | succ j =>
        obtain ⟨g2, e2, gl2, gc2⟩ := HS1.out j (by omega)
        obtain rfl : g = g2 := by simpa using e2
        have hf := HFAR.out j hlt
        obtain ⟨q2, q3⟩ := HAT.out j (by omega)
        generalize relocs.getD (j + 1) 0 = r at d5 d6 gc hf q0 q1
        generalize relocs.getD j 0 = r2 at gc2 hf q2 q3
        have d7 : ¬ r - r2 < 2 := by omega
        go_wp2_with fail
        refine ⟨⟨j + 2, by omega, by go_num, trivial⟩, by simp [intOf]; omega⟩
    · obtain rfl : k = M := by omega
      have c1 : ¬ ((k : Nat) : Int) < k := by omega
      go_wp2_with fail
      go_ret
      exact ⟨rfl, HB1.out⟩

def Img.fitsB (x : Img) (para : Int) : Bool := decide (para * 16 + x.size ≤ 1048576)
theorem Img.size_in (x : Img) (hx : x.ok) : 0 ≤ x.size ∧ x.size ≤ 1000000 := by
  have hl := hx.len
  have m0 := hx.min0
  have m1 := hx.min1
  have : 0 ≤ parasN x.bytes.length ∧ parasN x.bytes.length ≤ 3760 := by unfold parasN; split <;> omega
  unfold Img.size
  omega
set_option maxRecDepth 100000 in
set_option maxHeartbeats 1600000 in
theorem fits_img (x : Img) (para : Int) (w : World) (hx : x.ok) (hi : ImgAt w x) (p0 : 0 ≤ para) (p1 : para ≤ 65535) : Calls Tryz.prog 133 #[x.val, .int .u16 para] w fun e w' => e = .returned (.bool (x.fitsB para)) ∧ Below w.heap.size w w' := by
  have hs := x.size_in hx
  have KM := Lib.hid (fun w (hi : ImgAt w x) => may_img x w hx hi)
  have KS := Lib.hid (fun w => size_any x w hx)
  have HI0 := Lib.hid (hi.alloc (.cells x.cells 78))
  have HX0 := Lib.hid (Row.new w x.cells 78)
  have HB0 := Lib.hid ((Below.refl w.heap.size w).alloc (Nat.le_refl _) (.cells x.cells 78))
  have xc := HX0.out.cell
  have e1 : decide (para * 16 + x.size ≤ 1048576) = x.fitsB para := rfl
  have e2 : IntKind.i64.wrap (para * 16 + x.size) = para * 16 + x.size := by rw [IntKind.wrap_i64]; omega
  generalize x.fitsB para = fb at e1 ⊢
  obtain ⟨ba, bc, ra, rc, bytes, relocs, cs, ip, ss, sp, min⟩ := x
  clear hi hx
  go_enter Tryz.func133, Tryz.ntmps133
  go_wp2_with fail
  refine (KM.out _ HI0.out).mono ?_
  rintro e w1 ⟨rfl, hb⟩; dsimp only
  have HX1 := Lib.hid (Below.row hb HX0.out HX0.out.lt)
  have HB1 := Lib.hid (HB0.out.trans (hb.mono HB0.out.size))
  clear hb xc
  have xc := HX1.out.cell
  go_wp2_with fail
  refine (KS.out _).mono ?_
  rintro e w2 ⟨rfl, hb⟩; dsimp only
  have HB2 := Lib.hid (HB1.out.trans (hb.mono HB1.out.size))
  clear hb xc
  go_wp2_with fail
  go_ret
  exact ⟨rfl, HB2.out⟩
end Go.Proofs.YtcglkefaopgjeaaGreatDoor

/- Package mem: Load; package load: psp: walks. -/
namespace Go.Proofs.YtcglkefaopgjeaaGreatDoor
set_option linter.unusedSimpArgs false
set_option linter.unusedVariables false
open Go.RowKit

/-- Bytes that lie from a place on. -/
def laidF (f : Nat → Int) (at_ : Nat) (l : List Int) (n : Nat) : Nat → Int := fun k => if at_ ≤ k ∧ k < at_ + n then l.getD (k - at_) 0 else f k
def laidT (t : Nat → Int) (at_ : Nat) (n : Nat) : Nat → Int := fun k => if at_ ≤ k ∧ k < at_ + n then 0 else t k
theorem laidF_zero (f : Nat → Int) (a : Nat) (l : List Int) : laidF f a l 0 = f := by
  funext k; unfold laidF; rw [if_neg (by omega)]
theorem laidT_zero (f : Nat → Int) (a : Nat) : laidT f a 0 = f := by
  funext k; unfold laidT; rw [if_neg (by omega)]
theorem laidF_succ (f : Nat → Int) (a : Nat) (l : List Int) (n : Nat) : upd (laidF f a l n) (a + n) (l.getD n 0) = laidF f a l (n + 1) := by
  funext k
  unfold upd laidF
  by_cases e : k = a + n
  · subst e
    rw [if_pos rfl, if_pos (by omega), show a + n - a = n by omega]
  · rw [if_neg e]
    by_cases h : a ≤ k ∧ k < a + n
    · rw [if_pos h, if_pos (by omega)]
    · rw [if_neg h, if_neg (by omega)]
theorem laidT_succ (f : Nat → Int) (a : Nat) (n : Nat) : upd (laidT f a n) (a + n) 0 = laidT f a (n + 1) := by
  funext k
  unfold upd laidT
  by_cases e : k = a + n
  · subst e
    rw [if_pos rfl, if_pos (by omega)]
  · rw [if_neg e]
    by_cases h : a ≤ k ∧ k < a + n
    · rw [if_pos h, if_pos (by omega)]
    · rw [if_neg h, if_neg (by omega)]
/-- A slice's row in memory that is not the memory's own. -/
theorem slAt_fr {w w' : World} {bb tb : Nat} {f : Int → Value} {a : Option Addr} {l : List Int} (h : SlAt w f a l) (hf : Fr (ownM bb tb) w w') (hn : ∀ g, a = some ⟨g, 0, none⟩ → 0 < l.length → ¬ ownM bb tb g) : SlAt w' f a l := by
  intro k hk
  obtain ⟨g, e, lt, c⟩ := h k hk
  refine ⟨g, e, Nat.lt_of_lt_of_le lt hf.size, ?_⟩
  have hbl := hf.block g lt (hn g e (by omega))
  unfold World.cell? at c ⊢
  simp only [hbl] at c ⊢
  exact c

set_option maxRecDepth 100000 in
set_option maxHeartbeats 1600000 in
theorem memLoad_any (mb bb tb : Nat) (f t : Nat → Int) (w : World) (hm : MemAt w mb bb tb f t) (a : Nat) (ba : Option Addr) (bc : Nat) (l : List Int) (hs : SlAt w (.int .u8) ba l) (hn : ∀ g, ba = some ⟨g, 0, none⟩ → 0 < l.length → ¬ ownM bb tb g) (hb : ∀ k, 0 ≤ l.getD k 0 ∧ l.getD k 0 ≤ 255) (ha : a + l.length ≤ 1048576) :
    Calls Tryz.prog 135 #[.pointer (some ⟨mb, 0, none⟩), .int .u32 a, .slice ba l.length bc] w fun e w' => e = .returned (.tuple #[]) ∧ MemAt w' mb bb tb (laidF f a l l.length) (laidT t a l.length) ∧ Fr (ownM bb tb) w w' := by
  obtain ⟨N, hN⟩ : ∃ N, l.length = N := ⟨_, rfl⟩
  have HM0 := Lib.hid (show MemAt w mb bb tb (laidF f a l 0) (laidT t a 0) by rw [laidF_zero, laidT_zero]; exact hm)
  have HB := Lib.hid hb
  have HN := Lib.hid hn
  have HS := Lib.hid hs
  rw [hN] at ha ⊢
  clear hm hb hn hs
  go_enter Tryz.func135, Tryz.ntmps135
  go_wp2_with fail
  go_loopw [10] (fun s10 wr => ∃ k : Nat, k ≤ N ∧ s10 = .int .i64 k ∧ MemAt wr mb bb tb (laidF f a l k) (laidT t a k) ∧ Fr (ownM bb tb) w wr) (fun s10 _ => N - (intOf s10).toNat)
  case atStart => exact ⟨0, by omega, rfl, HM0.out, Fr.refl _ _⟩
  case round =>
    obtain ⟨k, hk, rfl, hmr, hfr⟩ := hrel
    have HMR := Lib.hid hmr
    have HFR := Lib.hid hfr
    clear hmr hfr
    by_cases hlt : k < N
    · have c1 : ((k : Nat) : Int) < N := by omega
      obtain ⟨g, hg, gl, gc⟩ := slAt_fr HS.out HFR.out HN.out k (hN ▸ hlt)
      subst hg
      have hv := HB.out k
      have KS := Lib.hid (fun w hm => memSet_any mb bb tb (laidF f a l k) (laidT t a k) w hm (a + k) (l.getD k 0) hv.1 hv.2)
      rw [show (a + k) % 1048576 = a + k from Nat.mod_eq_of_lt (by omega), laidF_succ, laidT_succ] at KS
      generalize l.getD k 0 = v at gc hv KS
      have e1 : ((a + k : Nat) : Int) = (a : Int) + k := by omega
      rw [e1] at KS
      have c2 : ¬ (1048576 : Int) - a ≤ k := by omega
      have c3 : (a : Int) % 1048576 = a := by omega
      have a0 : (a : Int) < 1048576 := by omega
      clear e1
      go_wp2_with fail
      refine (KS.out _ HMR.out).mono ?_
      rintro e w2 ⟨rfl, hm2, hf2⟩; dsimp only
      have HM2 := Lib.hid hm2
      have HF2 := Lib.hid (HFR.out.trans hf2)
      clear hm2 hf2
      go_wp2_with fail
      exact ⟨⟨k + 1, by omega, by go_num, HM2.out, HF2.out⟩, by simp [intOf]; omega⟩
    · obtain rfl : k = N := by omega
      have c1 : ¬ ((k : Nat) : Int) < k := by omega
      go_wp2_with fail
      go_end0
      exact ⟨rfl, HMR.out, HFR.out⟩

theorem slAt_new2 (w : World) (a b : Int) : SlAt (w.alloc (.cells #[.int .u8 a, .int .u8 b] 5)) (.int .u8) (some ⟨w.heap.size, 0, none⟩) [a, b] := by
  intro k hk
  refine ⟨_, rfl, by simp, ?_⟩
  rw [(Row.new w #[.int .u8 a, .int .u8 b] 5).cell]
  match k, hk with
  | 0, _ => rfl
  | 1, _ => rfl
theorem MemAt.ownLt {w : World} {mb bb tb : Nat} {f t : Nat → Int} (hm : MemAt w mb bb tb f t) {k : Nat} (h : w.heap.size ≤ k) : ¬ ownM bb tb k := by
  rintro (e | e)
  · have := hm.b.lt; omega
  · have := hm.t.lt; omega
def endV (x : Img) (para : Int) : V := ⟨(para + x.size / 16) % 65536, true⟩
def pspF (f : Nat → Int) (x : Img) (para : Int) : Nat → Int := setF (laidF f (para * 16).toNat [205, 32] 2) (lin para 2) (lin para 3) (endV x para).v
def pspT (t : Nat → Int) (para : Int) : Nat → Int := setT (laidT t (para * 16).toNat 2) (lin para 2) (lin para 3) true
set_option maxRecDepth 100000 in
set_option maxHeartbeats 1600000 in
theorem psp_any (x : Img) (hx : x.ok) (para : Int) (p0 : 0 ≤ para) (p1 : para ≤ 65535) (mb bb tb : Nat) (f t : Nat → Int) (w : World) (hm : MemAt w mb bb tb f t) :
    Calls Tryz.prog 134 #[.pointer (some ⟨mb, 0, none⟩), x.val, .int .u16 para] w fun e w' => e = .returned (.tuple #[]) ∧ MemAt w' mb bb tb (pspF f x para) (pspT t para) ∧ Fr (ownM bb tb) w w' := by
  have hs := x.size_in hx
  have hs2 : x.size % 16 = 0 := by unfold Img.size; omega
  have KZ := Lib.hid (fun w => size_any x w hx)
  obtain ⟨pp, hpp⟩ : ∃ n : Nat, para * 16 = n := ⟨(para * 16).toNat, by omega⟩
  have hpn : (para * 16).toNat = pp := by omega
  have HM1 := Lib.hid ((hm.alloc (.cells x.cells 78)).alloc (.cells #[.int .u8 205, .int .u8 32] 5))
  have hsl := slAt_new2 (w.alloc (.cells x.cells 78)) 205 32
  have KL := Lib.hid (memLoad_any mb bb tb f t _ HM1.out pp (some ⟨(w.alloc (.cells x.cells 78)).heap.size, 0, none⟩) 2 [205, 32] hsl (fun g hg _ => by cases hg; exact (hm.alloc (.cells x.cells 78)).ownLt (Nat.le_refl _)) (fun k => by match k with | 0 => exact ⟨by decide, by decide⟩ | 1 => exact ⟨by decide, by decide⟩ | k + 2 => exact ⟨by simp, by simp⟩) (by simp; omega))
  have HF1 := Lib.hid (((Fr.refl (ownM bb tb) w).alloc (.cells x.cells 78)).alloc (.cells #[.int .u8 205, .int .u8 32] 5))
  have HX1 := Lib.hid ((Row.new w x.cells 78).alloc (.cells #[.int .u8 205, .int .u8 32] 5))
  have HXO := Lib.hid (hm.ownLt (Nat.le_refl _))
  have KW := Lib.hid (fun w hm => memSetWord_any mb bb tb (laidF f pp [205, 32] 2) (laidT t pp 2) w hm para 2 p0 p1 (by decide) (by decide) (endV x para) (by show 0 ≤ (para + x.size / 16) % 65536; omega) (by show (para + x.size / 16) % 65536 ≤ 65535; omega))
  rw [show succW 2 = 3 by decide] at KW
  rw [show setF (laidF f pp [205, 32] 2) (lin para 2) (lin para 3) (endV x para).v = pspF f x para by rw [pspF, hpn], show setT (laidT t pp 2) (lin para 2) (lin para 3) (endV x para).t = pspT t para by rw [pspT, hpn]; rfl] at KW
  have ev : endV x para = ⟨(para + x.size / 16) % 65536, true⟩ := rfl
  rw [ev] at KW
  have hw : IntKind.u16.wrap (para + IntKind.u16.wrap (x.size / 16)) = (para + x.size / 16) % 65536 := by simp only [IntKind.wrap_u16]; omega
  rw [World.size_alloc] at KL
  simp only [List.length_cons, List.length_nil] at KL
  rw [← hpp] at KL
  generalize pspF f x para = F at KW ⊢
  generalize pspT t para = G at KW ⊢
  generalize x.size = Z at KZ hs hw KW hs2
  obtain ⟨ba, bc, ra, rc, bytes, relocs, cs, ip, ss, sp, min⟩ := x
  clear hm hx hsl hpn hpp ev
  go_enter Tryz.func134, Tryz.ntmps134
  go_wp2_with fail
  refine KL.out.mono ?_
  rintro e w2 ⟨rfl, hm2, hf2⟩; dsimp only
  have HM2 := Lib.hid hm2
  have HF2 := Lib.hid (HF1.out.trans hf2)
  have xc := (hf2.row HX1.out HXO.out).cell
  clear hm2 hf2
  go_wp2_with fail
  refine (KZ.out _).mono ?_
  rintro e w3 ⟨rfl, hb3⟩; dsimp only
  have HM3 := Lib.hid (HM2.out.below hb3)
  have HF3 := Lib.hid (HF2.out.trans (Fr.of_below hb3))
  clear hb3 xc
  go_wp2_with fail
  refine (KW.out _ HM3.out).mono ?_
  rintro e w4 ⟨rfl, hm4, hf4⟩; dsimp only
  have HQ := Lib.hid (show MemAt w4 mb bb tb F G ∧ Fr (ownM bb tb) w w4 from ⟨hm4, HF3.out.trans hf4⟩)
  clear hm4 hf4
  go_wp2_with fail
  go_end0
  exact ⟨rfl, HQ.out⟩
end Go.Proofs.YtcglkefaopgjeaaGreatDoor

/- Package load: Load: what it lays, and the walk up to core.New. -/
namespace Go.Proofs.YtcglkefaopgjeaaGreatDoor
set_option linter.unusedSimpArgs false
set_option linter.unusedVariables false
open Go.RowKit

theorem below_fr {N bb tb : Nat} {a b c : World} (hb : Below N a b) (hf : Fr (ownM bb tb) b c) (h1 : N ≤ bb) (h2 : N ≤ tb) (h3 : N ≤ b.heap.size) : Below N a c :=
  ⟨hf.os.trans hb.os, hf.tape.trans hb.tape, hf.output.trans hb.output, Nat.le_trans hb.size hf.size, fun k hk => (hf.block k (Nat.lt_of_lt_of_le hk h3) (by rintro (e | e) <;> omega)).trans (hb.block k hk)⟩
theorem WorldAt.rebase {w : World} {p : WPhys} {rs : List Int} (h : WorldAt w p rs 0 []) (hl : p.lv = .slice none 0 0) {N : Nat} (h1 : p.base ≤ N) (h2 : N ≤ w.heap.size) : WorldAt w ⟨p.wb, N, p.ra, p.rcap, p.lv⟩ rs 0 [] :=
  ⟨h.row, h.rep, fun g hg => ⟨Nat.lt_of_lt_of_le (h.repB g hg).1 h1, (h.repB g hg).2⟩, by show w.ownsRow N _ _ p.lv _ _; rw [hl]; exact World.ownsRow_nil _ _ _ _, Nat.lt_of_lt_of_le h.wbB h1, h2, h.le, h.most, h.big⟩
/-- What its list of paragraphs makes of what is laid. -/
def relM (x : Img) (para : Int) (f t : Nat → Int) : Nat → (Nat → Int) × (Nat → Int)
  | 0 => (f, t)
  | k + 1 =>
    let p := relM x para f t k
    let r := x.relocs.getD k 0
    let X := lin (para + 16 + r / 16) (r % 16)
    let Y := lin (para + 16 + r / 16) (succW (r % 16))
    (setF p.1 X Y (tokV para (p.1 X + 256 * p.1 Y)).v, setT p.2 X Y true)
def loadF (x : Img) (para : Int) : Nat → Int := laidF (pspF (fun _ => 0) x para) ((para + 16) * 16).toNat x.bytes x.bytes.length
def loadT (x : Img) (para : Int) : Nat → Int := laidT (pspT (fun _ => 0) para) ((para + 16) * 16).toNat x.bytes.length
def loadP (x : Img) (para : Int) : (Nat → Int) × (Nat → Int) := relM x para (loadF x para) (loadT x para) x.relocs.length
def loadR (x : Img) (para : Int) : Regs := { zeroR with s0 := ⟨para, true⟩, s1 := tokV para x.cs, s2 := tokV para x.ss, s3 := ⟨para, true⟩, g4 := ⟨x.sp, false⟩, ip := x.ip }
/-- The machine with a program at a paragraph. -/
def loadM (x : Img) (para : Int) (rs : List Int) : Mach := ⟨loadR x para, para * 16, x.size, 0, (loadP x para).1, (loadP x para).2, rs, 0, []⟩
def Loaded (w : World) (x : Img) (para : Int) (rs : List Int) (p : WPhys) (e : Ending) (w' : World) : Prop :=
  ∃ C : Phys, e = .returned (.tuple #[.pointer (some ⟨C.b, 0, none⟩), .int .i64 0]) ∧ Own w' C (.slice none 0 0) (loadM x para rs) ∧ Below w.heap.size w w' ∧ w.heap.size ≤ C.b ∧ w.heap.size ≤ C.mb ∧ w.heap.size ≤ C.bb ∧ w.heap.size ≤ C.tb ∧ C.wb = p.wb ∧ C.ra = p.ra
/-- What Load carries. -/
structure LdIn (w wx : World) (x : Img) (B : Nat) : Prop where
  b : Below w.heap.size w wx
  le : w.heap.size ≤ B
  row : Row wx B x.cells 78
theorem LdIn.below {w wx wy : World} {x : Img} {B : Nat} (h : LdIn w wx x B) (hb : Below wx.heap.size wx wy) : LdIn w wy x B := ⟨h.b.trans (hb.mono h.b.size), h.le, Below.row hb h.row h.row.lt⟩
theorem LdIn.fr {w wx wy : World} {x : Img} {B bb tb : Nat} (h : LdIn w wx x B) (hf : Fr (ownM bb tb) wx wy) (h1 : B < bb) (h2 : B < tb) : LdIn w wy x B :=
  ⟨below_fr h.b hf (by have := h.le; omega) (by have := h.le; omega) h.b.size, h.le, hf.row h.row (by rintro (e | e) <;> omega)⟩
theorem LdIn.drew {w wx : World} {x : Img} {B : Nat} (h : LdIn w wx x B) : LdIn w wx.drew x B := h.below (Below.refl _ _).drew
theorem LdIn.alloc {w wx : World} {x : Img} {B : Nat} (h : LdIn w wx x B) (o : Obj) : LdIn w (wx.alloc o) x B := h.below ((Below.refl _ _).alloc (Nat.le_refl _) o)
theorem LdIn.cell {w wx : World} {x : Img} {B : Nat} (h : LdIn w wx x B) (j : Nat) : wx.cell? ⟨B, j, none⟩ = x.cells[j]? := h.row.cell j

theorem LdIn.putR {w wx : World} {x : Img} {B : Nat} (h : LdIn w wx x B) {g : Nat} (r : Regs) (hg : B < g) : LdIn w (Go.Proofs.YtcglkefaopgjeaaGreatDoor.putR wx g r) x B := by
  have f := Fr.putR (Fr.refl (fun k => k = g) wx) rfl r
  exact ⟨⟨f.os.trans h.b.os, f.tape.trans h.b.tape, f.output.trans h.b.output, Nat.le_trans h.b.size f.size, fun k hk => (f.block k (Nat.lt_of_lt_of_le hk h.b.size) (by have := h.le; omega)).trans (h.b.block k hk)⟩, h.le, f.row h.row (by omega)⟩

set_option maxRecDepth 100000 in
set_option maxHeartbeats 400000 in
theorem load_walk (x : Img) (hx : x.ok) (para : Int) (p0 : 0 ≤ para) (p1 : para ≤ 65519) (hfit : x.fitsB para = true) (p : WPhys) (rs : List Int) (w : World) (hi : ImgAt w x) (hw : WorldAt w p rs 0 []) (hlv : p.lv = .slice none 0 0) :
    Calls Tryz.prog 80 #[x.val, .int .u16 para, .pointer (some ⟨p.wb, 0, none⟩)] w (Loaded w x para rs p) := by
  have hsz := x.size_in hx
  have hft : para * 16 + x.size ≤ 1048576 := of_decide_eq_true hfit
  have KM := Lib.hid (fun wx (h : LdIn w wx x w.heap.size) => may_img x wx hx (hi.below h.b))
  have KF := Lib.hid (fun wx (h : LdIn w wx x w.heap.size) => fits_img x para wx hx (hi.below h.b) p0 (by omega))
  rw [hfit] at KF
  have KP := Lib.hid (fun mb bb tb wx hm => psp_any x hx para p0 (by omega) mb bb tb (fun _ => 0) (fun _ => 0) wx hm)
  obtain ⟨ad, had⟩ : ∃ n : Nat, (para + 16) * 16 = n := ⟨((para + 16) * 16).toNat, by omega⟩
  have hadn : ((para + 16) * 16).toNat = ad := by omega
  have hpl : (x.bytes.length : Int) ≤ x.size - 256 := by
    unfold Img.size parasN
    have := hx.min0
    split <;> omega
  have KL := Lib.hid (fun mb bb tb wx hm (h : LdIn w wx x w.heap.size) (h1 : w.heap.size < bb) (h2 : w.heap.size < tb) => memLoad_any mb bb tb (pspF (fun _ => 0) x para) (pspT (fun _ => 0) para) wx hm ad x.ba x.bc x.bytes (hi.below h.b).b (fun g hg hl => by
    obtain ⟨g2, e2, lt, _⟩ := hi.b 0 hl
    rw [hg] at e2
    obtain rfl : g = g2 := by simpa using e2
    rintro (e | e) <;> omega) hx.by_ (by omega))
  rw [show laidF (pspF (fun _ => 0) x para) ad x.bytes x.bytes.length = loadF x para by rw [loadF, hadn], show laidT (pspT (fun _ => 0) para) ad x.bytes.length = loadT x para by rw [loadT, hadn], ← had] at KL
  have HR0 := Lib.hid (show relM x para (loadF x para) (loadT x para) 0 = (loadF x para, loadT x para) from rfl)
  have HRS := Lib.hid (fun k => (show relM x para (loadF x para) (loadT x para) (k + 1) = (let p := relM x para (loadF x para) (loadT x para) k; let r := x.relocs.getD k 0; let X := lin (para + 16 + r / 16) (r % 16); let Y := lin (para + 16 + r / 16) (succW (r % 16)); (setF p.1 X Y (tokV para (p.1 X + 256 * p.1 Y)).v, setT p.2 X Y true)) from rfl))
  have HRE := Lib.hid (show relM x para (loadF x para) (loadT x para) x.relocs.length = loadP x para from rfl)
  generalize relM x para (loadF x para) (loadT x para) = RM at HR0 HRS HRE
  have HAT := Lib.hid (fun k hk => hx.at_ k hk)
  have HIR := Lib.hid (fun wx (h : LdIn w wx x w.heap.size) => (hi.below h.b).r)
  have HWO := Lib.hid (fun wx (h : LdIn w wx x w.heap.size) => hw.below h.b)
  have KZ := Lib.hid (fun w => size_any x w hx)
  have L0 := Lib.hid (show LdIn w (w.alloc (.cells x.cells 78)) x w.heap.size from ⟨(Below.refl _ _).alloc (Nat.le_refl _) _, Nat.le_refl _, Row.new _ _ _⟩)
  have HPW := Lib.hid hw.wbB
  have HPB := Lib.hid hw.baseB
  have HPR := Lib.hid hw.repB
  have HLV := Lib.hid hlv
  have hwd := Lib.hid hx.w
  obtain ⟨ba, bc, ra, rc, bytes, relocs, cs, ip, sx, sp, min⟩ := x
  dsimp only at KL HIR HAT HRE HRS hpl hwd
  have hmany := hx.many
  dsimp only at hmany
  clear hx hi hw hlv hfit had hadn
  have xc := L0.out.cell
  go_enter Tryz.func80, Tryz.ntmps80
  go_wp2_with fail
  refine (KM.out _ L0.out).mono ?_
  rintro e w1 ⟨rfl, hb⟩; dsimp only
  have L1 := Lib.hid (L0.out.below hb)
  clear hb xc
  have xc := L1.out.cell
  go_wp2_with fail
  refine (KF.out _ L1.out).mono ?_
  rintro e w2 ⟨rfl, hb⟩; dsimp only
  have L2 := Lib.hid (L1.out.below hb)
  clear hb xc
  have xc := L2.out.cell
  go_wp2_with fail
  refine (memNew_any _).mono ?_
  rintro e w3 ⟨mb, bb, tb, rfl, hm, hb, q1, q2, q3⟩; dsimp only
  have L3 := Lib.hid (L2.out.below hb)
  have Q1 := Lib.hid (show w.heap.size < mb from Nat.lt_of_lt_of_le L2.out.row.lt q1)
  have Q2 := Lib.hid (show w.heap.size < bb from Nat.lt_of_lt_of_le L2.out.row.lt q2)
  have Q3 := Lib.hid (show w.heap.size < tb from Nat.lt_of_lt_of_le L2.out.row.lt q3)
  have M3 := Lib.hid hm
  clear hb xc hm q1 q2 q3
  have xc := L3.out.cell
  go_wp2_with fail
  refine (KP.out _ _ _ _ M3.out).mono ?_
  rintro e w4 ⟨rfl, hm, hf⟩; dsimp only
  have L4 := Lib.hid (L3.out.fr hf Q2.out Q3.out)
  have M4 := Lib.hid hm
  clear hm hf xc
  have xc := L4.out.cell
  dsimp only [Img.cells] at xc
  go_wp2_with fail
  refine (KL.out _ _ _ _ M4.out L4.out Q2.out Q3.out).mono ?_
  rintro e w5 ⟨rfl, hm, hf⟩; dsimp only
  have L5 := Lib.hid (L4.out.fr hf Q2.out Q3.out)
  have M5 := Lib.hid (show MemAt w5 mb bb tb (RM 0).1 (RM 0).2 by rw [HR0.out]; exact hm)
  clear hm hf xc KL KP KM KF M3 M4 L0 L1 L2 L3 L4 HR0
  have xc := L5.out.cell
  dsimp only [Img.cells] at xc
  go_wp2_with fail
  go_loopw [41] (fun s41 wr => ∃ k : Nat, k ≤ relocs.length ∧ s41 = .int .i64 k ∧ MemAt wr mb bb tb (RM k).1 (RM k).2 ∧ LdIn w wr ⟨ba, bc, ra, rc, bytes, relocs, cs, ip, sx, sp, min⟩ w.heap.size) (fun s41 _ => relocs.length - (intOf s41).toNat)
  case atStart => exact ⟨0, by omega, rfl, M5.out, L5.out⟩
  case round =>
    clear xc M5 L5
    obtain ⟨k, hk, rfl, hm, hl⟩ := hrel
    have MR := Lib.hid hm
    have LR := Lib.hid hl
    clear hm hl
    by_cases hlt : k < relocs.length
    · have c1 : ((k : Nat) : Int) < relocs.length := by omega
      obtain ⟨g, hg, gl, gc⟩ := HIR.out _ LR.out k hlt
      subst hg
      obtain ⟨q0, q1⟩ := HAT.out k hlt
      have hst := HRS.out k
      (try dsimp only at hst)
      have HST := Lib.hid hst
      clear hst
      obtain ⟨r, hr⟩ : ∃ r, relocs.getD k 0 = r := ⟨_, rfl⟩
      rw [hr] at gc q0 q1 HST
      have KN := Lib.hid (fun w => normal_any r w q0 (by omega))
      have hseg0 : 0 ≤ para + 16 + r / 16 := by omega
      have hseg1 : para + 16 + r / 16 ≤ 65535 := by omega
      have hoff0 : 0 ≤ r % 16 := by omega
      have hoff1 : r % 16 ≤ 65535 := by omega
      have ew : IntKind.u32.wrap r = r := by rw [IntKind.wrap_u32]; omega
      have hm := MR.out
      rw [show MemAt wr mb bb tb (RM k).1 (RM k).2 = MemAt wr mb bb tb (RM k).1 (RM k).2 from rfl] at hm
      have HS1 : (RM (k + 1)).1 = setF (RM k).1 (lin (para + 16 + r / 16) (r % 16)) (lin (para + 16 + r / 16) (succW (r % 16))) (tokV para ((RM k).1 (lin (para + 16 + r / 16) (r % 16)) + 256 * (RM k).1 (lin (para + 16 + r / 16) (succW (r % 16))))).v := congrArg Prod.fst HST.out
      have HS2 : (RM (k + 1)).2 = setT (RM k).2 (lin (para + 16 + r / 16) (r % 16)) (lin (para + 16 + r / 16) (succW (r % 16))) true := congrArg Prod.snd HST.out
      have HSA := Lib.hid HS1
      have HSB := Lib.hid HS2
      clear HS1 HS2 HST hm
      generalize (RM k).1 = f1 at MR HSA
      generalize (RM k).2 = t1 at MR HSB
      have KW := Lib.hid (fun w hm => memWord_any mb bb tb f1 t1 w hm (para + 16 + r / 16) (r % 16) hseg0 hseg1 hoff0 hoff1)
      have hb1 := MR.out.wf (lin (para + 16 + r / 16) (r % 16))
      have hb2 := MR.out.wf (lin (para + 16 + r / 16) (succW (r % 16)))
      obtain ⟨X, hX⟩ : ∃ X, lin (para + 16 + r / 16) (r % 16) = X := ⟨_, rfl⟩
      obtain ⟨Y, hY⟩ : ∃ Y, lin (para + 16 + r / 16) (succW (r % 16)) = Y := ⟨_, rfl⟩
      have KS := Lib.hid (fun w hm v h5 h6 => memSetWord_any mb bb tb f1 t1 w hm (para + 16 + r / 16) (r % 16) hseg0 hseg1 hoff0 hoff1 v h5 h6)
      rw [hX, hY] at KW KS HSA
      rw [hX, hY] at HSB
      rw [hX] at hb1
      rw [hY] at hb2
      clear hX hY
      obtain ⟨v, hv⟩ : ∃ v, f1 X + 256 * f1 Y = v := ⟨_, rfl⟩
      obtain ⟨vt, hvt⟩ : ∃ v, mwordT t1 X Y = v := ⟨_, rfl⟩
      rw [show mwordV f1 t1 X Y = ⟨v, vt⟩ by rw [← hv, ← hvt]] at KW
      rw [hv] at HSA
      have hv0 : 0 ≤ v := by omega
      have hv1 : v ≤ 65535 := by omega
      generalize mwordC t1 X Y = vc at KW
      have KT := Lib.hid (fun w => token_any para v w)
      have htk0 : 0 ≤ (tokV para v).v := by show 0 ≤ (para + 16 + v) % 65536; omega
      have htk1 : (tokV para v).v ≤ 65535 := by show (para + 16 + v) % 65536 ≤ 65535; omega
      have htt : (tokV para v).t = true := rfl
      generalize tokV para v = tv at KT HSA htk0 htk1 htt
      obtain ⟨tkv, tkt⟩ := tv
      dsimp only at htk0 htk1 htt
      subst htt
      have KS := Lib.hid (fun w hm => KS.out w hm ⟨tkv, true⟩ htk0 htk1)
      dsimp only at KS
      have hdiv : (para + 16 + r / 16) = para + 16 + r / 16 := rfl
      have xw : IntKind.u16.wrap (para + 16 + r / 16) = para + 16 + r / 16 := by rw [IntKind.wrap_u16]; omega
      clear hv hvt hb1 hb2 hdiv
      have xc := LR.out.cell
      dsimp only [Img.cells] at xc
      go_wp2_with fail
      refine (KN.out _).mono ?_
      rintro e w' ⟨rfl, rfl⟩; dsimp only
      clear xc
      go_wp2_with fail
      refine (KW.out _ MR.out).mono ?_
      rintro e w6 ⟨rfl, hb⟩; dsimp only
      have MR6 := Lib.hid (MR.out.below hb)
      have LR6 := Lib.hid (LR.out.below hb)
      clear hb
      go_wp2_with fail
      refine (KT.out _).mono ?_
      rintro e w7 ⟨rfl, hb⟩; dsimp only
      have MR7 := Lib.hid ((MR6.out.alloc (.cells #[.int .u16 v, .bool vt] 24)).below hb)
      have LR7 := Lib.hid ((LR6.out.alloc (.cells #[.int .u16 v, .bool vt] 24)).below hb)
      clear hb
      go_wp2_with fail
      refine (KS.out _ MR7.out).mono ?_
      rintro e w8 ⟨rfl, hm8, hf8⟩; dsimp only
      have MR8 := Lib.hid (show MemAt w8 mb bb tb (RM (k + 1)).1 (RM (k + 1)).2 by rw [HSA.out, HSB.out]; exact hm8)
      have LR8 := Lib.hid (LR7.out.fr hf8 Q2.out Q3.out)
      clear hm8 hf8
      go_wp2_with fail
      exact ⟨⟨k + 1, by omega, by go_num, MR8.out, LR8.out⟩, by simp [intOf]; omega⟩
    · obtain rfl : k = relocs.length := by omega
      have c1 : ¬ ((relocs.length : Nat) : Int) < relocs.length := by omega
      have hz := HRE.out
      rw [hz] at MR
      have xc := LR.out.cell
      dsimp only [Img.cells] at xc
      clear hz
      go_wp2_with fail
      refine (KZ.out _).mono ?_
      rintro e w9 ⟨rfl, hb⟩; dsimp only
      have M9 := Lib.hid (MR.out.below hb)
      have L9 := Lib.hid (LR.out.below hb)
      clear hb xc MR LR
      have hwo := HWO.out _ L9.out
      have hpw := HPW.out
      have hpb := HPB.out
      have q1 := Q1.out
      have q2 := Q2.out
      have q3 := Q3.out
      have hsz9 := L9.out.b.size
      have hreb := hwo.rebase HLV.out (N := w9.heap.size) (by omega) (Nat.le_refl _)
      have KC := Lib.hid (coreNew_any w9 mb bb tb _ _ M9.out ⟨p.wb, w9.heap.size, p.ra, p.rcap, p.lv⟩ rs hreb HLV.out rfl (by show mb ≠ p.wb; omega) (by show bb ≠ p.wb; omega) (by show tb ≠ p.wb; omega) (fun g hg => by have := (HPR.out g hg).1; omega) para (Img.size ⟨ba, bc, ra, rc, bytes, relocs, cs, ip, sx, sp, min⟩) p0 (by omega) hsz.1 (by omega))
      clear hwo hreb hpw hpb q1 q2 q3 hsz9
      go_wp2_with fail
      refine KC.out.mono ?_
      rintro e w10 ⟨C, rfl, ho, hb, e1, e2, e3, e4, e5, e6⟩; dsimp only
      have L10 := Lib.hid (L9.out.below hb)
      obtain ⟨m0, hm0⟩ : ∃ m0 : Mach, (⟨zeroR, para * 16, Img.size ⟨ba, bc, ra, rc, bytes, relocs, cs, ip, sx, sp, min⟩, 0, (loadP ⟨ba, bc, ra, rc, bytes, relocs, cs, ip, sx, sp, min⟩ para).1, (loadP ⟨ba, bc, ra, rc, bytes, relocs, cs, ip, sx, sp, min⟩ para).2, rs, 0, []⟩ : Mach) = m0 := ⟨_, rfl⟩
      have hmr : m0.r = zeroR := by rw [← hm0]
      have HMEM := Lib.hid (show loadM ⟨ba, bc, ra, rc, bytes, relocs, cs, ip, sx, sp, min⟩ para rs = { m0 with r := loadR ⟨ba, bc, ra, rc, bytes, relocs, cs, ip, sx, sp, min⟩ para } by rw [← hm0]; rfl)
      rw [hm0] at ho
      have HO1 := Lib.hid ho
      have HNC := Lib.hid (show w.heap.size ≤ C.b ∧ w.heap.size ≤ C.mb ∧ w.heap.size ≤ C.bb ∧ w.heap.size ≤ C.tb ∧ C.wb = p.wb ∧ C.ra = p.ra from by
        have := L9.out.b.size
        have := Q1.out
        have := Q2.out
        have := Q3.out
        exact ⟨by omega, by omega, by omega, by omega, e5, e6⟩)
      have HCB := Lib.hid (show w.heap.size < C.b from by rw [e1]; exact L9.out.row.lt)
      clear hm0 hb ho KC M9 e1 e2 e3 e4 e5 e6 Q1 Q2 Q3 HPW HPB HPR HLV HRE HRS KZ HIR HAT HWO
      have z0 := zeroR_wf
      have pw : V.wf ⟨para, true⟩ := ⟨p0, by show para ≤ 65535; omega⟩
      have tw1 : V.wf (tokV para cs) := ⟨by show 0 ≤ (para + 16 + cs) % 65536; omega, by show (para + 16 + cs) % 65536 ≤ 65535; omega⟩
      have tw2 : V.wf (tokV para sx) := ⟨by show 0 ≤ (para + 16 + sx) % 65536; omega, by show (para + 16 + sx) % 65536 ≤ 65535; omega⟩
      obtain ⟨r1, h1⟩ : ∃ r, zeroR.putSeg 3 ⟨para, true⟩ = r := ⟨_, rfl⟩
      obtain ⟨r2, h2⟩ : ∃ r, r1.putSeg 0 ⟨para, true⟩ = r := ⟨_, rfl⟩
      obtain ⟨r3, h3⟩ : ∃ r, r2.putSeg 1 (tokV para cs) = r := ⟨_, rfl⟩
      obtain ⟨r4, h4⟩ : ∃ r, r3.putSeg 2 (tokV para sx) = r := ⟨_, rfl⟩
      obtain ⟨r5, h5⟩ : ∃ r, r4.put 4 ⟨sp, false⟩ = r := ⟨_, rfl⟩
      have R1 := Lib.hid (show r1.wf from h1 ▸ (show ({ zeroR with s3 := ⟨para, true⟩ } : Regs).wf from { z0 with s3 := pw }))
      have R2 := Lib.hid (show r2.wf from h2 ▸ (show ({ r1 with s0 := ⟨para, true⟩ } : Regs).wf from { R1.out with s0 := pw }))
      have R3 := Lib.hid (show r3.wf from h3 ▸ (show ({ r2 with s1 := tokV para cs } : Regs).wf from { R2.out with s1 := tw1 }))
      have R4 := Lib.hid (show r4.wf from h4 ▸ (show ({ r3 with s2 := tokV para sx } : Regs).wf from { R3.out with s2 := tw2 }))
      have R5 := Lib.hid (show r5.wf from h5 ▸ (show ({ r4 with g4 := ⟨sp, false⟩ } : Regs).wf from { R4.out with g4 := ⟨hwd.out.2.2.2.1, hwd.out.2.2.2.2⟩ }))
      have HLR := Lib.hid (show loadR ⟨ba, bc, ra, rc, bytes, relocs, cs, ip, sx, sp, min⟩ para = { r5 with ip := ip } by rw [← h5, ← h4, ← h3, ← h2, ← h1]; rfl)
      have K1 := Lib.hid (fun w => h1 ▸ putSeg_any zeroR 3 ⟨para, true⟩ w)
      have K2 := Lib.hid (fun w => h2 ▸ putSeg_any r1 0 ⟨para, true⟩ w)
      have K3 := Lib.hid (fun w => h3 ▸ putSeg_any r2 1 (tokV para cs) w)
      have K4 := Lib.hid (fun w => h4 ▸ putSeg_any r3 2 (tokV para sx) w)
      have K5 := Lib.hid (fun w => h5 ▸ put_any r4 4 ⟨sp, false⟩ w)
      have KT1 := Lib.hid (fun w => token_any para cs w)
      have KT2 := Lib.hid (fun w => token_any para sx w)
      have hip := hwd.out.2.1
      clear h1 h2 h3 h4 h5 z0 pw tw1 tw2
      generalize tokV para cs = t1 at K3 KT1
      generalize tokV para sx = t2 at K4 KT2
      have sc := HO1.out.sees.c; have sf := HO1.out.sees.f; have sr := HO1.out.sees.r; have ss := HO1.out.sees.s; have sl := HO1.out.sees.l
      rw [hmr] at sr
      go_wp2_with fail
      refine (K1.out _).mono ?_
      rintro e w11 ⟨rfl, hb⟩; dsimp only
      have HO2 := Lib.hid (HO1.out.below hb)
      have L11 := Lib.hid (L10.out.below hb)
      clear sc sf sr ss sl; clear hb
      have sc := HO2.out.sees.c; have sf := HO2.out.sees.f; have sr := HO2.out.sees.r; have ss := HO2.out.sees.s; have sl := HO2.out.sees.l
      go_upto_region 18 with fail
      have HO3 := Lib.hid (HO2.out.putR r1 R1.out)
      have L12 := Lib.hid (show LdIn w (putR w11 C.b r1) ⟨ba, bc, ra, rc, bytes, relocs, cs, ip, sx, sp, min⟩ w.heap.size from L11.out.putR r1 HCB.out)
      clear sc sf sr ss sl
      generalize putR w11 C.b r1 = w12 at HO3 L12 ⊢
      have sc := HO3.out.sees.c; have sf := HO3.out.sees.f; have sr := HO3.out.sees.r; have ss := HO3.out.sees.s; have sl := HO3.out.sees.l
      go_wp2_with fail
      refine (K2.out _).mono ?_
      rintro e w13 ⟨rfl, hb⟩; dsimp only
      have HO4 := Lib.hid (HO3.out.below hb)
      have L13 := Lib.hid (L12.out.below hb)
      clear sc sf sr ss sl; clear hb
      have sc := HO4.out.sees.c; have sf := HO4.out.sees.f; have sr := HO4.out.sees.r; have ss := HO4.out.sees.s; have sl := HO4.out.sees.l
      go_upto_region 19 with fail
      have HO5 := Lib.hid (HO4.out.putR r2 R2.out)
      have L14 := Lib.hid (L13.out.putR r2 HCB.out)
      clear sc sf sr ss sl
      generalize putR w13 C.b r2 = w14 at HO5 L14 ⊢
      clear L10 L11 L12 L13 HO1 HO2 HO3 HO4
      have x2 : w14.cell? ⟨w.heap.size, 2, none⟩ = some (.int .u16 cs) := L14.out.cell 2
      have sc := HO5.out.sees.c; have sf := HO5.out.sees.f; have sr := HO5.out.sees.r; have ss := HO5.out.sees.s; have sl := HO5.out.sees.l
      refine range_of (w14) ?_; intro S inst ω hin hout
      have q1 := range_regs hin sr
      have q2 := range_cell hin x2
      have k1 := range_call hin hout KT1.out
      have k2 := range_call hin hout K3.out
      clear sc sf sr ss sl x2
      refine wp_region_tail_range ω 12 (by kernel_rfl) (by kernel_rfl) (hout _ (Below.refl _ _).drew) ?_; simp only [List.take_succ_cons, List.take_zero, List.drop_succ_cons, List.drop_zero]
      repeat (go_big_quiet_step (first | (with_reducible exact k1 _) | (with_reducible exact k2 _)))
      refine wpQuiet_nil ?_; intro _ hw'; obtain ⟨nq, rfl⟩ := hw'
      have HO6 := Lib.hid (HO5.out.below (hin nq))
      have L15 := Lib.hid (L14.out.below (hin nq))
      clear q1 q2 k1 k2
      generalize ω nq = w15 at HO6 L15
      have sc := HO6.out.sees.c; have sf := HO6.out.sees.f; have sr := HO6.out.sees.r; have ss := HO6.out.sees.s; have sl := HO6.out.sees.l
      go_upto_region 20 with fail
      have HO7 := Lib.hid (HO6.out.putR r3 R3.out)
      have L16 := Lib.hid (L15.out.putR r3 HCB.out)
      clear sc sf sr ss sl
      generalize putR w15 C.b r3 = w16 at HO7 L16 ⊢
      clear K3 KT1 L14 L15 HO5 HO6
      have x4 : w16.cell? ⟨w.heap.size, 4, none⟩ = some (.int .u16 sx) := L16.out.cell 4
      have sc := HO7.out.sees.c; have sf := HO7.out.sees.f; have sr := HO7.out.sees.r; have ss := HO7.out.sees.s; have sl := HO7.out.sees.l
      refine range_of (w16) ?_; intro S inst ω hin hout
      have q1 := range_regs hin sr
      have q2 := range_cell hin x4
      have k1 := range_call hin hout KT2.out
      have k2 := range_call hin hout K4.out
      clear sc sf sr ss sl x4
      refine wp_region_tail_range ω 12 (by kernel_rfl) (by kernel_rfl) (hout _ (Below.refl _ _).drew) ?_; simp only [List.take_succ_cons, List.take_zero, List.drop_succ_cons, List.drop_zero]
      repeat (go_big_quiet_step (first | (with_reducible exact k1 _) | (with_reducible exact k2 _)))
      refine wpQuiet_nil ?_; intro _ hw'; obtain ⟨nq, rfl⟩ := hw'
      have HO8 := Lib.hid (HO7.out.below (hin nq))
      have L17 := Lib.hid (L16.out.below (hin nq))
      clear q1 q2 k1 k2
      generalize ω nq = w17 at HO8 L17
      have sc := HO8.out.sees.c; have sf := HO8.out.sees.f; have sr := HO8.out.sees.r; have ss := HO8.out.sees.s; have sl := HO8.out.sees.l
      go_upto_region 21 with fail
      have HO9 := Lib.hid (HO8.out.putR r4 R4.out)
      have L18 := Lib.hid (L17.out.putR r4 HCB.out)
      clear sc sf sr ss sl
      generalize putR w17 C.b r4 = w18 at HO9 L18 ⊢
      clear K4 KT2 L16 L17 HO7 HO8
      have x5 : w18.cell? ⟨w.heap.size, 5, none⟩ = some (.int .u16 sp) := L18.out.cell 5
      have sc := HO9.out.sees.c; have sf := HO9.out.sees.f; have sr := HO9.out.sees.r; have ss := HO9.out.sees.s; have sl := HO9.out.sees.l
      refine range_of (w18) ?_; intro S inst ω hin hout
      have q1 := range_regs hin sr
      have q2 := range_cell hin x5
      have k2 := range_call hin hout K5.out
      clear sc sf sr ss sl x5
      refine wp_region_tail_range ω 11 (by kernel_rfl) (by kernel_rfl) (hout _ (Below.refl _ _).drew) ?_; simp only [List.take_succ_cons, List.take_zero, List.drop_succ_cons, List.drop_zero]
      repeat (go_big_quiet_step (with_reducible exact k2 _))
      refine wpQuiet_nil ?_; intro _ hw'; obtain ⟨nq, rfl⟩ := hw'
      have HO10 := Lib.hid (HO9.out.below (hin nq))
      have L19 := Lib.hid (L18.out.below (hin nq))
      clear q1 q2 k2
      generalize ω nq = w19 at HO10 L19
      have sc := HO10.out.sees.c; have sf := HO10.out.sees.f; have sr := HO10.out.sees.r; have ss := HO10.out.sees.s; have sl := HO10.out.sees.l
      go_upto_region 22 with fail
      have HO11 := Lib.hid (HO10.out.putR r5 R5.out)
      have L20 := Lib.hid (L19.out.putR r5 HCB.out)
      clear sc sf sr ss sl
      generalize putR w19 C.b r5 = w20 at HO11 L20 ⊢
      clear K5 L18 L19 HO9 HO10
      have x3 : w20.cell? ⟨w.heap.size, 3, none⟩ = some (.int .u16 ip) := L20.out.cell 3
      have sc := HO11.out.sees.c; have sf := HO11.out.sees.f; have sr := HO11.out.sees.r; have ss := HO11.out.sees.s; have sl := HO11.out.sees.l
      go_wp2_with fail
      go_ret2
      have HO12 := HO11.out.setIP ip hip.1 hip.2
      have HM := HMEM.out
      rw [HLR.out] at HM
      have hbb := L20.out.b.setCell (p := ⟨C.b, 24, none⟩) (by have := HCB.out; show w.heap.size ≤ C.b; omega) (.int .u16 ip)
      refine ⟨C, rfl, ?_, hbb, HNC.out⟩
      rw [HM]
      exact HO12
end Go.Proofs.YtcglkefaopgjeaaGreatDoor

/- Package pair: word, Regs; package core: Base, Size: walks. -/
namespace Go.Proofs.YtcglkefaopgjeaaGreatDoor
set_option linter.unusedSimpArgs false
set_option linter.unusedVariables false
open Go.RowKit

/-- Two words are alike, where one counts from a paragraph so much farther. -/
def alikeB (a b : V) (d : Int) : Bool := if a.t != b.t then false else if a.t then (a.v + d) % 65536 == b.v else a.v == b.v
set_option maxRecDepth 100000 in
set_option maxHeartbeats 800000 in
theorem pword_any (a b : V) (d : Int) (w : World) : Calls Tryz.prog 91 #[a.val, b.val, .int .u16 d] w fun e w' => e = .returned (.bool (alikeB a b d)) ∧ Below w.heap.size w w' := by
  obtain ⟨av, ta⟩ := a
  obtain ⟨bv, tb⟩ := b
  have HB := Lib.hid (((Below.refl w.heap.size w).alloc (Nat.le_refl _) (.cells #[.int .u16 av, .bool ta] 24)).alloc (by simp) (.cells #[.int .u16 bv, .bool tb] 24))
  have hw : IntKind.u16.wrap (av + d) = (av + d) % 65536 := by rw [IntKind.wrap_u16]
  cases ta <;> cases tb
  all_goals
    go_enter Tryz.func91, Tryz.ntmps91
    go_wp2_with fail
    go_ret
    exact ⟨rfl, HB.out⟩

def regsL (a b : Regs) (d : Int) : Nat → Bool
  | 0 => true
  | k + 1 => regsL a b d k && alikeB (a.get k) (b.get k) d
def segsL (a b : Regs) (d : Int) : Nat → Bool
  | 0 => true
  | k + 1 => segsL a b d k && alikeB (a.seg k) (b.seg k) d
def regsB (a b : Regs) (d : Int) : Bool := regsL a b d 8 && segsL a b d 4 && (a.ip == b.ip) && (a.f == b.f)
theorem regsL_no {a b : Regs} {d : Int} {k : Nat} (h : alikeB (a.get k) (b.get k) d = false) : ∀ n, k < n → regsL a b d n = false := by
  intro n hn
  induction n with
  | zero => omega
  | succ n ih =>
    rw [regsL]
    by_cases e : k = n
    · subst e; rw [h, Bool.and_false]
    · rw [ih (by omega), Bool.false_and]
theorem segsL_no {a b : Regs} {d : Int} {k : Nat} (h : alikeB (a.seg k) (b.seg k) d = false) : ∀ n, k < n → segsL a b d n = false := by
  intro n hn
  induction n with
  | zero => omega
  | succ n ih =>
    rw [segsL]
    by_cases e : k = n
    · subst e; rw [h, Bool.and_false]
    · rw [ih (by omega), Bool.false_and]
structure TwoR (w wx : World) (B1 B2 : Nat) (a b : Regs) : Prop where
  bw : Below w.heap.size w wx
  r1 : Row wx B1 a.cells 28
  r2 : Row wx B2 b.cells 28
theorem TwoR.below {w wx wy : World} {B1 B2 : Nat} {a b : Regs} (h : TwoR w wx B1 B2 a b) (hb : Below wx.heap.size wx wy) : TwoR w wy B1 B2 a b := ⟨h.bw.trans (hb.mono h.bw.size), Below.row hb h.r1 h.r1.lt, Below.row hb h.r2 h.r2.lt⟩

set_option maxRecDepth 100000 in
set_option maxHeartbeats 3200000 in
theorem pregs_any (a b : Regs) (d : Int) (w : World) : Calls Tryz.prog 42 #[a.val, b.val, .int .u16 d] w fun e w' => e = .returned (.bool (regsB a b d)) ∧ Below w.heap.size w w' := by
  have T0 := Lib.hid (show TwoR w ((w.alloc (.cells a.cells 28)).alloc (.cells b.cells 28)) w.heap.size (w.heap.size + 1) a b from ⟨((Below.refl w.heap.size w).alloc (Nat.le_refl _) _).alloc (by simp) _, (Row.new _ _ _).alloc _, Row.new' (by rw [World.size_alloc])⟩)
  go_enter Tryz.func42, Tryz.ntmps42
  go_wp2_with fail
  generalize (w.alloc (.cells a.cells 28)).alloc (.cells b.cells 28) = W0 at T0 ⊢
  go_loopw [9] (fun s9 wr => ∃ k : Nat, k ≤ 8 ∧ s9 = .int .i64 k ∧ regsL a b d k = true ∧ TwoR w wr w.heap.size (w.heap.size + 1) a b) (fun s9 _ => 8 - (intOf s9).toNat)
  case atStart => exact ⟨0, by omega, rfl, rfl, T0.out⟩
  case round =>
    obtain ⟨k, hk, rfl, hl, ht⟩ := hrel
    have T1 := Lib.hid ht
    have HL := Lib.hid hl
    clear T0 ht hl
    by_cases hlt : k < 8
    · have c1 : ((k : Nat) : Int) < 8 := by omega
      have g1 := T1.out.r1.sees.r
      have g2 := T1.out.r2.sees.r
      have KA := fun w => get_any a k w
      have KB := fun w => get_any b k w
      have HA := Lib.hid (show ∀ bo, alikeB (a.get k) (b.get k) d = bo → (bo = true → regsL a b d (k + 1) = true) ∧ (bo = false → regsB a b d = false) from fun bo h => ⟨fun e => by rw [regsL, HL.out, h, e]; rfl, fun e => by rw [regsB, regsL_no (h.trans e) 8 hlt]; rfl⟩)
      have KW := fun w => pword_any (a.get k) (b.get k) d w
      generalize alikeB (a.get k) (b.get k) d = al at KW HA
      generalize a.get k = va at KA KW
      generalize b.get k = vb at KB KW
      go_upto_region 4 with fail
      refine range_of (wr) ?_; intro S inst ω hin hout
      have q1 := range_regs hin g1
      have q2 := range_regs hin g2
      have k1 := range_call hin hout KA
      have k2 := range_call hin hout KB
      have k3 := range_call hin hout KW
      clear g1 g2 KA KB KW
      refine wp_region_range_lit ω (by kernel_rfl) (by kernel_rfl) (hout _ (Below.refl _ _).drew) ?_
      repeat (go_big_quiet_step (first | (with_reducible exact k1 _) | (with_reducible exact k2 _) | (with_reducible exact k3 _)))
      refine wpQuiet_nil ?_; intro _ hw'; obtain ⟨nq, rfl⟩ := hw'
      have T2 := Lib.hid (T1.out.below (hin nq))
      clear q1 q2 k1 k2 k3
      generalize ω nq = w2 at T2
      cases al
      · have HR := Lib.hid ((HA.out false rfl).2 rfl)
        clear HA
        go_wp2_with fail
        go_ret
        rw [HR.out]
        exact ⟨rfl, T2.out.bw⟩
      · have HR := Lib.hid ((HA.out true rfl).1 rfl)
        clear HA
        go_wp2_with fail
        exact ⟨⟨k + 1, by omega, by go_num, HR.out, T2.out⟩, by simp [intOf]; omega⟩
    · obtain rfl : k = 8 := by omega
      have c1 : ¬ ((8 : Nat) : Int) < 8 := by omega
      have HL8 := Lib.hid HL.out
      clear HL
      go_wp2_with fail
      go_loopw [22] (fun s22 wx => ∃ k : Nat, k ≤ 4 ∧ s22 = .int .i64 k ∧ segsL a b d k = true ∧ TwoR w wx w.heap.size (w.heap.size + 1) a b) (fun s22 _ => 4 - (intOf s22).toNat)
      case atStart => exact ⟨0, by omega, rfl, rfl, T1.out⟩
      case round =>
        clear T1
        obtain ⟨k, hk, rfl, hl, ht⟩ := hrel
        have T1 := Lib.hid ht
        have HL := Lib.hid hl
        clear ht hl
        by_cases hlt : k < 4
        · have c1 : ((k : Nat) : Int) < 4 := by omega
          have g1 := T1.out.r1.sees.r
          have g2 := T1.out.r2.sees.r
          have KA := fun w => seg_any a k w
          have KB := fun w => seg_any b k w
          have HA := Lib.hid (show ∀ bo, alikeB (a.seg k) (b.seg k) d = bo → (bo = true → segsL a b d (k + 1) = true) ∧ (bo = false → regsB a b d = false) from fun bo h => ⟨fun e => by rw [segsL, HL.out, h, e]; rfl, fun e => by rw [regsB, segsL_no (h.trans e) 4 hlt, Bool.and_false]; rfl⟩)
          have KW := fun w => pword_any (a.seg k) (b.seg k) d w
          generalize alikeB (a.seg k) (b.seg k) d = al at KW HA
          generalize a.seg k = va at KA KW
          generalize b.seg k = vb at KB KW
          go_upto_region 10 with fail

          refine range_of (wr) ?_; intro S inst ω hin hout
          have q1 := range_regs hin g1
          have q2 := range_regs hin g2
          have k1 := range_call hin hout KA
          have k2 := range_call hin hout KB
          have k3 := range_call hin hout KW
          clear g1 g2 KA KB KW
          refine wp_region_range_lit ω (by kernel_rfl) (by kernel_rfl) (hout _ (Below.refl _ _).drew) ?_
          repeat (go_big_quiet_step (first | (with_reducible exact k1 _) | (with_reducible exact k2 _) | (with_reducible exact k3 _)))
          refine wpQuiet_nil ?_; intro _ hw'; obtain ⟨nq, rfl⟩ := hw'
          have T2 := Lib.hid (T1.out.below (hin nq))
          clear q1 q2 k1 k2 k3
          generalize ω nq = w2 at T2
          cases al
          · have HR := Lib.hid ((HA.out false rfl).2 rfl)
            clear HA
            go_wp2_with fail
            go_ret
            rw [HR.out]
            exact ⟨rfl, T2.out.bw⟩
          · have HR := Lib.hid ((HA.out true rfl).1 rfl)
            clear HA
            go_wp2_with fail
            exact ⟨⟨k + 1, by omega, by go_num, HR.out, T2.out⟩, by simp [intOf]; omega⟩
        · obtain rfl : k = 4 := by omega
          have c1 : ¬ ((4 : Nat) : Int) < 4 := by omega
          have HR := Lib.hid (show ((a.ip == b.ip) && (a.f == b.f)) = regsB a b d by rw [regsB, HL8.out, HL.out]; rfl)
          have x1 := T1.out.r1.cell 24
          have x2 := T1.out.r1.cell 25
          have x3 := T1.out.r2.cell 24
          have x4 := T1.out.r2.cell 25
          rw [show a.cells[24]? = some (.int .u16 a.ip) from rfl] at x1
          rw [show a.cells[25]? = some (.int .u16 a.f) from rfl] at x2
          rw [show b.cells[24]? = some (.int .u16 b.ip) from rfl] at x3
          rw [show b.cells[25]? = some (.int .u16 b.f) from rfl] at x4
          obtain ⟨c, hc⟩ : ∃ c, (a.ip == b.ip) = c := ⟨_, rfl⟩
          rw [hc] at HR

          cases c
          · go_wp2_with fail
            go_ret
            rw [← HR.out]
            exact ⟨rfl, T1.out.bw⟩
          · go_wp2_with fail
            go_ret
            rw [← HR.out]
            exact ⟨rfl, T1.out.bw⟩

set_option maxHeartbeats 400000 in
theorem size_own (w : World) (C : Phys) (lv : Value) (m : Mach) (h : Own w C lv m) : Calls Tryz.prog 87 #[.pointer (some ⟨C.b, 0, none⟩)] w fun e w' => e = .returned (.int .i64 m.size) ∧ w = w' := by
  have c := h.row.cell 29
  rw [show (mcells C m)[29]? = some (.int .u32 m.size) from rfl] at c
  have s0 := h.wf.size.1
  have s1 := h.wf.size.2
  have hc : IntKind.i64.wrap m.size = m.size := by rw [IntKind.wrap_i64]; omega
  clear h
  go_enter Tryz.func87, Tryz.ntmps87
  go_wp2_with fail
  go_ret
  exact ⟨rfl, rfl⟩
set_option maxHeartbeats 400000 in
theorem base_own (w : World) (C : Phys) (lv : Value) (m : Mach) (h : Own w C lv m) : Calls Tryz.prog 88 #[.pointer (some ⟨C.b, 0, none⟩)] w fun e w' => e = .returned (.int .u32 m.base) ∧ w = w' := by
  have c := h.row.cell 28
  rw [show (mcells C m)[28]? = some (.int .u32 m.base) from rfl] at c
  clear h
  go_enter Tryz.func88, Tryz.ntmps88
  go_wp2_with fail
  go_ret
  exact ⟨rfl, rfl⟩
end Go.Proofs.YtcglkefaopgjeaaGreatDoor

/- Package pair: Bytes: walk. -/
namespace Go.Proofs.YtcglkefaopgjeaaGreatDoor
set_option linter.unusedSimpArgs false
set_option linter.unusedVariables false
open Go.RowKit

/-- Two programs are alike, byte by byte, and paragraphs that count from where they are loaded by so much. -/
def bytesB (fa ta fb tb : Nat → Int) (A B S : Nat) (d : Int) : Nat → Nat → Bool
  | 0, _ => true
  | n + 1, i =>
    if S ≤ i then true
    else if (ta (A + i) == 0) != (tb (B + i) == 0) then false
    else if ta (A + i) == 0 then (if fa (A + i) == fb (B + i) then bytesB fa ta fb tb A B S d n (i + 1) else false)
    else if alikeB (mwordV fa ta (A + i) ((A + i + 1) % 1048576)) (mwordV fb tb (B + i) ((B + i + 1) % 1048576)) d then bytesB fa ta fb tb A B S d n (i + 2) else false
def machB (a b : Mach) (d : Int) : Bool := bytesB a.mem a.tag b.mem b.tag a.base.toNat b.base.toNat a.size.toNat d (a.size.toNat + 1) 0
theorem lin_norm (X : Nat) (h : X < 1048576) : lin ((X : Int) / 16) ((X : Int) % 16) = X ∧ lin ((X : Int) / 16) (succW ((X : Int) % 16)) = (X + 1) % 1048576 := by
  have e : succW ((X : Int) % 16) = (X : Int) % 16 + 1 := by unfold succW; rw [IntKind.wrap_u16]; omega
  rw [e]
  unfold lin
  constructor <;> omega
theorem and15 (X : Nat) (h : X < 1048576) : bits .and .u32 (X : Int) 15 = (X : Int) % 16 := by
  rw [u32_and _ _ (by omega) (by omega) (by omega) (by omega)]
  show ((X &&& (2 ^ 4 - 1) : Nat) : Int) = _
  rw [Nat.and_two_pow_sub_one_eq_mod]
  omega
/-- Two machines stand in one world. -/
structure TwoM (w wx : World) (C D : Phys) (lv lw : Value) (a b : Mach) : Prop where
  bw : Below w.heap.size w wx
  o1 : Own wx C lv a
  o2 : Own wx D lw b
theorem TwoM.below {w wx wy : World} {C D : Phys} {lv lw : Value} {a b : Mach} (h : TwoM w wx C D lv lw a b) (hb : Below wx.heap.size wx wy) : TwoM w wy C D lv lw a b := ⟨h.bw.trans (hb.mono h.bw.size), h.o1.below hb, h.o2.below hb⟩

set_option maxRecDepth 100000 in
set_option maxHeartbeats 3200000 in
theorem pbytes_any (w : World) (C D : Phys) (lv lw : Value) (a b : Mach) (d : Int) (ha : Own w C lv a) (hb : Own w D lw b) (hs : a.size = b.size) (h1 : a.base + a.size ≤ 1048576) (h2 : b.base + b.size ≤ 1048576) :
    Calls Tryz.prog 41 #[.pointer (some ⟨C.b, 0, none⟩), .pointer (some ⟨D.b, 0, none⟩), .int .u16 d] w fun e w' => e = .returned (.bool (machB a b d)) ∧ Below w.heap.size w w' := by
  have T0 := Lib.hid (show TwoM w w C D lv lw a b from ⟨Below.refl _ _, ha, hb⟩)
  have a0 := ha.wf.base.1
  have b0 := hb.wf.base.1
  have s0 := ha.wf.size.1
  obtain ⟨A, hA⟩ : ∃ A : Nat, a.base = A := ⟨a.base.toNat, by omega⟩
  obtain ⟨B, hB⟩ : ∃ B : Nat, b.base = B := ⟨b.base.toNat, by omega⟩
  obtain ⟨S, hS⟩ : ∃ S : Nat, a.size = S := ⟨a.size.toNat, by omega⟩
  have hbs : b.size = S := hs ▸ hS
  have HR := Lib.hid (show bytesB a.mem a.tag b.mem b.tag A B S d (S + 1) 0 = machB a b d by rw [machB, hA, hB, hS]; rfl)
  have KS1 := Lib.hid (fun w h => hS ▸ size_own w C lv a h)
  have KS2 := Lib.hid (fun w h => hbs ▸ size_own w D lw b h)
  have KB1 := Lib.hid (fun w h => hA ▸ base_own w C lv a h)
  have KB2 := Lib.hid (fun w h => hB ▸ base_own w D lw b h)
  rw [hA, hS] at h1
  rw [hB, hbs] at h2
  generalize machB a b d = R at HR ⊢
  clear ha hb hs hA hB hS hbs a0 b0 s0
  go_enter Tryz.func41, Tryz.ntmps41
  go_wp2_with fail
  refine (KS1.out _ T0.out.o1).mono ?_
  rintro e w' ⟨rfl, rfl⟩; dsimp only
  go_wp2_with fail
  refine (KS2.out _ T0.out.o2).mono ?_
  rintro e w' ⟨rfl, rfl⟩; dsimp only
  go_wp2_with fail
  go_loopw [7] (fun s7 wr => ∃ f i : Nat, S + 1 ≤ f + i ∧ i ≤ S + 1 ∧ s7 = .int .i64 i ∧ bytesB a.mem a.tag b.mem b.tag A B S d f i = R ∧ TwoM w wr C D lv lw a b) (fun s7 _ => S + 2 - (intOf s7).toNat)
  case atStart => exact ⟨S + 1, 0, by omega, by omega, rfl, HR.out, T0.out⟩
  case round =>
    clear T0 HR
    obtain ⟨f, i, hf, hi, rfl, hr, ht⟩ := hrel
    have T1 := Lib.hid ht
    have HR := Lib.hid hr
    clear ht hr
    by_cases hlt : i < S
    · have c1 : ((i : Nat) : Int) < S := by omega
      obtain ⟨n, rfl⟩ : ∃ n, f = n + 1 := ⟨f - 1, by omega⟩
      have hr := HR.out
      rw [bytesB, if_neg (by omega)] at hr
      have HR := Lib.hid hr
      clear hr
      obtain ⟨X, hX⟩ : ∃ X : Nat, A + i = X := ⟨_, rfl⟩
      obtain ⟨Y, hY⟩ : ∃ Y : Nat, B + i = Y := ⟨_, rfl⟩
      rw [hX, hY] at HR
      have hXl : X < 1048576 := by omega
      have hYl : Y < 1048576 := by omega
      have eX : (A : Int) + (i : Nat) = (X : Int) := by omega
      have eY : (B : Int) + (i : Nat) = (Y : Int) := by omega
      go_wp2_with fail
      refine (KS1.out _ T1.out.o1).mono ?_
      rintro e w' ⟨rfl, rfl⟩; dsimp only
      go_wp2_with fail
      refine (KB1.out _ T1.out.o1).mono ?_
      rintro e w' ⟨rfl, rfl⟩; dsimp only
      go_wp2_with fail
      refine (KB2.out _ T1.out.o2).mono ?_
      rintro e w' ⟨rfl, rfl⟩; dsimp only
      go_upto_region 7 with fail
      have KP1 := fun wx (hb : Below wr.heap.size wr wx) => (memPlain_any C.mb C.bb C.tb a.mem a.tag wx (T1.out.o1.below hb).mem X).mono (R' := fun e w' => e = .returned (.bool (a.tag X == 0)) ∧ Below wx.heap.size wx w') (by rintro e w' ⟨rfl, rfl⟩; rw [Nat.mod_eq_of_lt hXl]; exact ⟨rfl, Below.refl _ _⟩)
      have KP2 := fun wx (hb : Below wr.heap.size wr wx) => (memPlain_any D.mb D.bb D.tb b.mem b.tag wx (T1.out.o2.below hb).mem Y).mono (R' := fun e w' => e = .returned (.bool (b.tag Y == 0)) ∧ Below wx.heap.size wx w') (by rintro e w' ⟨rfl, rfl⟩; rw [Nat.mod_eq_of_lt hYl]; exact ⟨rfl, Below.refl _ _⟩)
      have x1 : wr.cell? ⟨C.b, 26, none⟩ = some (.pointer (some ⟨C.mb, 0, none⟩)) := (T1.out.o1.row.cell 26).trans (mcell26 C a)
      have x2 : wr.cell? ⟨D.b, 26, none⟩ = some (.pointer (some ⟨D.mb, 0, none⟩)) := (T1.out.o2.row.cell 26).trans (mcell26 D b)
      obtain ⟨pa, hpa⟩ : ∃ p, (a.tag X == 0) = p := ⟨_, rfl⟩
      obtain ⟨pb, hpb⟩ : ∃ p, (b.tag Y == 0) = p := ⟨_, rfl⟩
      rw [hpa] at KP1 HR
      rw [hpb] at KP2 HR
      have HPA := Lib.hid hpa
      clear hpa hpb
      refine range_of (wr) ?_; intro S inst ω hin hout
      have q1 := range_cell hin x1
      have q2 := range_cell hin x2
      have k1 := range_calls hin hout KP1
      have k2 := range_calls hin hout KP2
      clear x1 x2 KP1 KP2
      refine wp_region_range_lit ω (by kernel_rfl) (by kernel_rfl) (hout _ (Below.refl _ _).drew) ?_
      repeat (go_big_quiet_step (first | (with_reducible exact k1 _) | (with_reducible exact k2 _)))
      refine wpQuiet_nil ?_; intro _ hw'; obtain ⟨nq, rfl⟩ := hw'
      have T2 := Lib.hid (T1.out.below (hin nq))
      clear q1 q2 k1 k2
      generalize ω nq = w2 at T2
      have x1 : w2.cell? ⟨C.b, 26, none⟩ = some (.pointer (some ⟨C.mb, 0, none⟩)) := (T2.out.o1.row.cell 26).trans (mcell26 C a)
      have x2 : w2.cell? ⟨D.b, 26, none⟩ = some (.pointer (some ⟨D.mb, 0, none⟩)) := (T2.out.o2.row.cell 26).trans (mcell26 D b)
      have KP3 := Lib.hid (memPlain_any C.mb C.bb C.tb a.mem a.tag w2 T2.out.o1.mem X)
      rw [Nat.mod_eq_of_lt hXl, HPA.out] at KP3
      cases pa <;> cases pb
      · have e0 : (false != false) = false := rfl
        have hr := HR.out
        rw [if_neg (by decide), if_neg (by decide)] at hr
        go_wp2_with fail
        refine KP3.out.mono ?_
        rintro e w' ⟨rfl, rfl⟩; dsimp only
        clear KP3
        obtain ⟨l1, l2⟩ := lin_norm X hXl
        obtain ⟨l3, l4⟩ := lin_norm Y hYl
        have KW1 := Lib.hid (memWord_any C.mb C.bb C.tb a.mem a.tag w2 T2.out.o1.mem ((X : Int) / 16) ((X : Int) % 16) (by omega) (by omega) (by omega) (by omega))
        rw [l1, l2] at KW1
        have KW2 := Lib.hid (fun wx hm => memWord_any D.mb D.bb D.tb b.mem b.tag wx hm ((Y : Int) / 16) ((Y : Int) % 16) (by omega) (by omega) (by omega) (by omega))
        rw [l3, l4] at KW2
        obtain ⟨va, hva⟩ : ∃ v, mwordV a.mem a.tag X ((X + 1) % 1048576) = v := ⟨_, rfl⟩
        obtain ⟨vb, hvb⟩ : ∃ v, mwordV b.mem b.tag Y ((Y + 1) % 1048576) = v := ⟨_, rfl⟩
        rw [hva] at KW1 hr
        rw [hvb] at KW2 hr
        generalize mwordC a.tag X ((X + 1) % 1048576) = ca at KW1
        generalize mwordC b.tag Y ((Y + 1) % 1048576) = cb at KW2
        have KPW := Lib.hid (fun w => pword_any va vb d w)
        generalize alikeB va vb d = al at hr KPW
        have n1 := and15 X hXl
        have n2 := and15 Y hYl
        have HRR := Lib.hid hr
        obtain ⟨vav, vat⟩ := va
        obtain ⟨vbv, vbt⟩ := vb
        clear hva hvb l1 l2 l3 l4 hr
        go_wp2_with fail
        refine KW1.out.mono ?_
        rintro e w3 ⟨rfl, hb⟩; dsimp only
        have T3 := Lib.hid ((T2.out.below hb).below ((Below.refl w3.heap.size w3).alloc (Nat.le_refl _) (.cells #[.int .u16 vav, .bool vat] 24)))
        have Z1 := Lib.hid (Row.new w3 #[.int .u16 vav, .bool vat] 24)
        clear hb x1 x2 KW1
        go_upto_region 13 with fail
        generalize w3.alloc (.cells #[.int .u16 vav, .bool vat] 24) = w3a at T3 Z1 ⊢
        generalize w3.heap.size = k3 at Z1 ⊢
        have x2 : w3a.cell? ⟨D.b, 26, none⟩ = some (.pointer (some ⟨D.mb, 0, none⟩)) := (T3.out.o2.row.cell 26).trans (mcell26 D b)
        go_wp2_with fail
        refine (KW2.out _ T3.out.o2.mem).mono ?_
        rintro e w4 ⟨rfl, hb⟩; dsimp only
        have T4 := Lib.hid ((T3.out.below hb).below ((Below.refl w4.heap.size w4).alloc (Nat.le_refl _) (.cells #[.int .u16 vbv, .bool vbt] 24)))
        have Z2 := Lib.hid ((Below.row hb Z1.out Z1.out.lt).alloc (.cells #[.int .u16 vbv, .bool vbt] 24))
        have Z3 := Lib.hid (Row.new w4 #[.int .u16 vbv, .bool vbt] 24)
        have hlt4 := (Below.row hb Z1.out Z1.out.lt).lt
        clear hb x2 KW2
        go_upto_region 14 with fail
        generalize w4.alloc (.cells #[.int .u16 vbv, .bool vbt] 24) = w5 at T4 Z2 Z3 ⊢
        have y1 := Z2.out.cell
        have y2 := Z3.out.cell
        go_wp2_with fail
        refine (KPW.out _).mono ?_
        rintro e w6 ⟨rfl, hb⟩; dsimp only
        have T6 := Lib.hid (T4.out.below hb)
        clear hb y1 y2
        cases al
        · have hr := HRR.out
          rw [if_neg (by decide)] at hr
          subst hr
          go_wp2_with fail
          go_ret
          exact ⟨rfl, T6.out.bw⟩
        · have hr := HRR.out
          rw [if_pos rfl] at hr
          have HR2 := Lib.hid hr
          clear hr
          go_wp2_with fail
          exact ⟨⟨n, i + 2, by omega, by omega, by go_num, HR2.out, T6.out⟩, by simp [intOf]; omega⟩
      · have hr := HR.out
        rw [if_pos (by decide)] at hr
        subst hr
        go_wp2_with fail
        go_ret
        exact ⟨rfl, T2.out.bw⟩
      · have hr := HR.out
        rw [if_pos (by decide)] at hr
        subst hr
        go_wp2_with fail
        go_ret
        exact ⟨rfl, T2.out.bw⟩
      · have hr := HR.out
        rw [if_neg (by decide), if_pos rfl] at hr
        go_wp2_with fail
        refine KP3.out.mono ?_
        rintro e w' ⟨rfl, rfl⟩; dsimp only
        clear x1 x2 KP3
        go_upto_region 10 with fail
        have KQ1 := fun wx (hb : Below w2.heap.size w2 wx) => (memAt_any C.mb C.bb C.tb a.mem a.tag wx (T2.out.o1.below hb).mem X).mono (R' := fun e w' => e = .returned (.int .u8 (a.mem X)) ∧ Below wx.heap.size wx w') (by rintro e w' ⟨rfl, rfl⟩; rw [Nat.mod_eq_of_lt hXl]; exact ⟨rfl, Below.refl _ _⟩)
        have KQ2 := fun wx (hb : Below w2.heap.size w2 wx) => (memAt_any D.mb D.bb D.tb b.mem b.tag wx (T2.out.o2.below hb).mem Y).mono (R' := fun e w' => e = .returned (.int .u8 (b.mem Y)) ∧ Below wx.heap.size wx w') (by rintro e w' ⟨rfl, rfl⟩; rw [Nat.mod_eq_of_lt hYl]; exact ⟨rfl, Below.refl _ _⟩)
        have x1 : w2.cell? ⟨C.b, 26, none⟩ = some (.pointer (some ⟨C.mb, 0, none⟩)) := (T2.out.o1.row.cell 26).trans (mcell26 C a)
        have x2 : w2.cell? ⟨D.b, 26, none⟩ = some (.pointer (some ⟨D.mb, 0, none⟩)) := (T2.out.o2.row.cell 26).trans (mcell26 D b)
        refine range_of (w2) ?_; intro S inst ω hin hout
        have q1 := range_cell hin x1
        have q2 := range_cell hin x2
        have k1 := range_calls hin hout KQ1
        have k2 := range_calls hin hout KQ2
        clear x1 x2 KQ1 KQ2
        generalize a.mem X = va at k1 hr
        generalize b.mem Y = vb at k2 hr
        refine wp_region_range_lit ω (by kernel_rfl) (by kernel_rfl) (hout _ (Below.refl _ _).drew) ?_
        repeat (go_big_quiet_step (first | (with_reducible exact k1 _) | (with_reducible exact k2 _)))
        refine wpQuiet_nil ?_; intro _ hw'; obtain ⟨nq, rfl⟩ := hw'
        have T3 := Lib.hid (T2.out.below (hin nq))
        clear q1 q2 k1 k2
        generalize ω nq = w3 at T3
        by_cases hv : va = vb
        · have hb : (va != vb) = false := by simp [hv]
          rw [if_pos (by simp [hv])] at hr
          have HR2 := Lib.hid hr
          clear hv hr
          go_wp2_with fail
          exact ⟨⟨n, i + 1, by omega, by omega, by go_num, HR2.out, T3.out⟩, by simp [intOf]; omega⟩
        · have hb : (va != vb) = true := by simp [hv]
          rw [if_neg (by simp [hv])] at hr
          subst hr
          clear hv
          go_wp2_with fail
          go_ret
          exact ⟨rfl, T3.out.bw⟩
    · have c1 : ¬ ((i : Nat) : Int) < S := by omega
      have hr := HR.out
      have he : R = true := by
        rw [← hr]
        cases f with
        | zero => rfl
        | succ n => rw [bytesB, if_pos (by omega)]
      subst he
      go_wp2_with fail
      refine (KS1.out _ T1.out.o1).mono ?_
      rintro e w' ⟨rfl, rfl⟩; dsimp only
      go_wp2_with fail
      go_ret
      exact ⟨rfl, T1.out.bw⟩
end Go.Proofs.YtcglkefaopgjeaaGreatDoor

/- Packages world and slices: Same: walks. -/
namespace Go.Proofs.YtcglkefaopgjeaaGreatDoor
set_option linter.unusedSimpArgs false
set_option linter.unusedVariables false
open Go.RowKit

def evB (x y : Ev) : Bool := x.kind == y.kind && (x.n == y.n && (x.v == y.v && (x.a == y.a && (x.b == y.b && (x.c == y.c && x.d == y.d)))))
theorem evB_same (x : Ev) : evB x x = true := by simp [evB]
theorem eq_evB (x y : Ev) (w : World) : (Op.equalIn 10000 67 x.val y.val).run Tryz.prog w = .ok (evB x y) w := by
  obtain ⟨x1, x2, x3, x4, x5, x6, x7⟩ := x
  obtain ⟨y1, y2, y3, y4, y5, y6, y7⟩ := y
  have hS : Tryz.prog.underlying 67 = some (.struct (Tryz.prog.fieldsOf 67)) := by kernel_rfl
  rw [show (10000 : Nat) = 9999 + 1 from rfl, run_equalIn_agg _ 9999 67 _ _ hS (by kernel_rfl)]
  simp only [Program.fieldsOf, Tryz.underlying67]
  go_simp
  unfold evB
  by_cases h1 : x1 = y1 <;> by_cases h2 : x2 = y2 <;> by_cases h3 : x3 = y3 <;> by_cases h4 : x4 = y4 <;> by_cases h5 : x5 = y5 <;> by_cases h6 : x6 = y6 <;> by_cases h7 : x7 = y7 <;> simp [h1, h2, h3, h4, h5, h6, h7]
/-- Two lists of events are alike. -/
def evsB : List Ev → List Ev → Bool
  | [], [] => true
  | x :: l, y :: k => evB x y && evsB l k
  | _, _ => false
theorem evsB_same (l : List Ev) : evsB l l = true := by induction l with | nil => rfl | cons x l ih => rw [evsB, evB_same, ih]; rfl
theorem evsB_len {l k : List Ev} (h : l.length ≠ k.length) : evsB l k = false := by
  induction l generalizing k with
  | nil => cases k with | nil => exact absurd rfl h | cons y k => rfl
  | cons x l ih =>
    cases k with
    | nil => rfl
    | cons y k =>
      rw [evsB, ih (by simpa using h), Bool.and_false]
/-- A slice of events stands in the world. -/
def EvAt (w : World) (v : Value) (l : List Ev) : Prop := (v = .slice none 0 0 ∧ l = []) ∨ ∃ g cap, v = .slice (some ⟨g, 0, none⟩) l.length cap ∧ g < w.heap.size ∧ ∀ j u, (evCells l)[j]? = some u → w.cell? ⟨g, j, none⟩ = some u
theorem EvAt.below {w w' : World} {v : Value} {l : List Ev} (h : EvAt w v l) (hb : Below w.heap.size w w') : EvAt w' v l := by
  rcases h with h | ⟨g, cap, e, lt, c⟩
  · exact Or.inl h
  · refine Or.inr ⟨g, cap, e, Nat.lt_of_lt_of_le lt hb.size, fun j u hu => ?_⟩
    have := c j u hu
    have hbl := hb.block g lt
    unfold World.cell? at this ⊢
    simp only [hbl] at this ⊢
    exact this
theorem evAt_own {w : World} {B : Nat} {v : Value} {l : List Ev} (h : w.ownsRow B 67 7 v l.length (evCells l)) : EvAt w v l := by
  obtain ⟨_, ⟨hv, hn⟩ | ⟨g, cap, cur, hv, hg, hh, _, _, hs, htake⟩⟩ := h
  · exact Or.inl ⟨hv, List.eq_nil_of_length_eq_zero hn⟩
  · refine Or.inr ⟨g, cap, hv, (Array.getElem?_eq_some_iff.1 hh).1, fun j u hu => ?_⟩
    have r : Row w g cur _ := hh
    rw [r.cell]
    rw [← htake, List.getElem?_take] at hu
    split at hu
    · simpa using hu
    · cases hu
theorem evCells_get (l : List Ev) (i : Nat) (x : Ev) (h : l[i]? = some x) (j : Nat) (hj : j < 7) : (evCells l)[i * 7 + j]? = x.cells[j]? := by
  induction l generalizing i with
  | nil => cases h
  | cons y l ih =>
    show (y.cells ++ evCells l)[i * 7 + j]? = _
    cases i with
    | zero =>
      obtain rfl : y = x := by simpa using h
      rw [List.getElem?_append_left (by show 0 * 7 + j < 7; omega)]
      congr 1
      omega
    | succ i =>
      rw [List.getElem?_append_right (by show 7 ≤ _; omega)]
      rw [show (i + 1) * 7 + j - y.cells.length = i * 7 + j by show (i + 1) * 7 + j - 7 = _; omega]
      exact ih i (by simpa using h)
theorem EvAt.form {w : World} {v : Value} {l : List Ev} (h : EvAt w v l) : ∃ a cap, v = .slice a l.length cap ∧ ∀ (i : Nat) (x : Ev), l[i]? = some x → ∃ g, a = some ⟨g, 0, none⟩ ∧ ∀ j, j < 7 → w.cell? ⟨g, i * 7 + j, none⟩ = x.cells[j]? := by
  rcases h with ⟨rfl, rfl⟩ | ⟨g, cap, rfl, lt, c⟩
  · exact ⟨none, 0, rfl, fun i x hx => by simp at hx⟩
  · refine ⟨_, _, rfl, fun i x hx => ⟨g, rfl, fun j hj => ?_⟩⟩
    have hc := evCells_get l i x hx j hj
    match j, hj with
    | 0, _ => exact c _ _ hc
    | 1, _ => exact c _ _ hc
    | 2, _ => exact c _ _ hc
    | 3, _ => exact c _ _ hc
    | 4, _ => exact c _ _ hc
    | 5, _ => exact c _ _ hc
    | 6, _ => exact c _ _ hc
theorem evsB_at {l k : List Ev} (hl : l.length = k.length) (i : Nat) (x y : Ev) (hx : l[i]? = some x) (hy : k[i]? = some y) : (evB x y = false → evsB l k = false) := by
  intro h
  induction l generalizing k i with
  | nil => simp at hx
  | cons a l ih =>
    cases k with
    | nil => simp at hy
    | cons b k =>
      rw [evsB]
      cases i with
      | zero =>
        obtain rfl : a = x := by simpa using hx
        obtain rfl : b = y := by simpa using hy
        rw [h, Bool.false_and]
      | succ i => rw [ih (by simpa using hl) i (by simpa using hx) (by simpa using hy), Bool.and_false]
theorem evsB_all {l k : List Ev} (hl : l.length = k.length) (h : ∀ (i : Nat) (x y : Ev), l[i]? = some x → k[i]? = some y → evB x y = true) : evsB l k = true := by
  induction l generalizing k with
  | nil => cases k with | nil => rfl | cons b k => simp at hl
  | cons a l ih =>
    cases k with
    | nil => simp at hl
    | cons b k =>
      rw [evsB, h 0 a b rfl rfl, ih (by simpa using hl) (fun i x y hx hy => h (i + 1) x y (by simpa using hx) (by simpa using hy))]
      rfl

set_option maxRecDepth 100000 in
set_option maxHeartbeats 3200000 in
theorem equalE_any (w : World) (va vb : Value) (la lb : List Ev) (ha : EvAt w va la) (hb : EvAt w vb lb) (hm : la.length ≤ 4000) :
    Calls Tryz.prog 140 #[va, vb] w fun e w' => e = .returned (.bool (evsB la lb)) ∧ Below w.heap.size w w' := by
  obtain ⟨aa, ca, rfl, fa⟩ := ha.form
  obtain ⟨ab, cb, rfl, fb⟩ := hb.form
  by_cases hl : la.length = lb.length
  · have HALL := Lib.hid (fun h => evsB_all hl h)
    have HNO := Lib.hid (fun (i : Nat) (x y : Ev) => evsB_at hl i x y)
    obtain ⟨N, hN⟩ : ∃ N, la.length = N := ⟨_, rfl⟩
    have hN2 : lb.length = N := hl ▸ hN
    have FA := Lib.hid (fun wr (hb : Below w.heap.size w wr) (i : Nat) (x : Ev) (h : la[i]? = some x) => (by
      obtain ⟨g, e, c⟩ := fa i x h
      refine ⟨g, e, fun j hj => ?_⟩
      obtain ⟨u, hu⟩ : ∃ u, x.cells[j]? = some u := ⟨_, List.getElem?_eq_getElem (by show j < 7; omega)⟩
      have := c j hj
      rw [hu] at this ⊢
      exact (hb.cell (World.block_lt_of_cell? _ _ this)).trans this : ∃ g, aa = some ⟨g, 0, none⟩ ∧ ∀ j, j < 7 → wr.cell? ⟨g, i * 7 + j, none⟩ = x.cells[j]?))
    have FB := Lib.hid (fun wr (hb : Below w.heap.size w wr) (i : Nat) (x : Ev) (h : lb[i]? = some x) => (by
      obtain ⟨g, e, c⟩ := fb i x h
      refine ⟨g, e, fun j hj => ?_⟩
      obtain ⟨u, hu⟩ : ∃ u, x.cells[j]? = some u := ⟨_, List.getElem?_eq_getElem (by show j < 7; omega)⟩
      have := c j hj
      rw [hu] at this ⊢
      exact (hb.cell (World.block_lt_of_cell? _ _ this)).trans this : ∃ g, ab = some ⟨g, 0, none⟩ ∧ ∀ j, j < 7 → wr.cell? ⟨g, i * 7 + j, none⟩ = x.cells[j]?))
    rw [hN, hN2]
    rw [hN] at hm
    generalize evsB la lb = R at HALL HNO ⊢
    clear fa fb ha hb hl
    have hG1 : ∀ i : Nat, i < N → ∃ x, la[i]? = some x := fun i hi => ⟨_, List.getElem?_eq_getElem (by omega)⟩
    have hG2 : ∀ i : Nat, i < N → ∃ x, lb[i]? = some x := fun i hi => ⟨_, List.getElem?_eq_getElem (by omega)⟩
    have HG1 := Lib.hid hG1
    have HG2 := Lib.hid hG2
    have HL1 := Lib.hid hN
    clear hG1 hG2 hN hN2
    go_enter Tryz.func140, Tryz.ntmps140
    go_wp2_with fail
    go_loopw [13] (fun s13 wr => ∃ k : Nat, k ≤ N ∧ s13 = .int .i64 k ∧ (∀ (i : Nat) (x y : Ev), i < k → la[i]? = some x → lb[i]? = some y → evB x y = true) ∧ Below w.heap.size w wr) (fun s13 _ => N - (intOf s13).toNat)
    case atStart => exact ⟨0, by omega, rfl, fun i _ _ h => absurd h (Nat.not_lt_zero _), Below.refl _ _⟩
    case round =>
      obtain ⟨k, hk, rfl, hp, hb⟩ := hrel
      have HP := Lib.hid hp
      have HB := Lib.hid hb
      clear hp hb
      by_cases hlt : k < N
      · have c1 : ((k : Nat) : Int) < N := by omega
        obtain ⟨x, hx⟩ := HG1.out k hlt
        obtain ⟨y, hy⟩ := HG2.out k hlt
        obtain ⟨g1, e1, f1⟩ := FA.out wr HB.out k x hx
        obtain ⟨g2, e2, f2⟩ := FB.out wr HB.out k y hy
        have HX := Lib.hid hx
        have HY := Lib.hid hy
        clear hx hy
        subst e1 e2
        have eqe := fun w => eq_evB x y w
        have x0 := f1 0 (by decide)
        have x1 := f1 1 (by decide)
        have x2 := f1 2 (by decide)
        have x3 := f1 3 (by decide)
        have x4 := f1 4 (by decide)
        have x5 := f1 5 (by decide)
        have x6 := f1 6 (by decide)
        have y0 := f2 0 (by decide)
        have y1 := f2 1 (by decide)
        have y2 := f2 2 (by decide)
        have y3 := f2 3 (by decide)
        have y4 := f2 4 (by decide)
        have y5 := f2 5 (by decide)
        have y6 := f2 6 (by decide)
        clear f1 f2
        have HE := Lib.hid (show evB x y = false → R = false from fun h => HNO.out k x y HX.out HY.out h)
        have HE2 := Lib.hid (show evB x y = true → ∀ (i : Nat) (x y : Ev), i < k + 1 → la[i]? = some x → lb[i]? = some y → evB x y = true from fun h i x' y' hi hx hy => by
          by_cases e : i = k
          · subst e
            rw [HX.out] at hx
            rw [HY.out] at hy
            cases hx; cases hy; exact h
          · exact HP.out i x' y' (by omega) hx hy)
        generalize evB x y = be at eqe HE HE2
        obtain ⟨a1, a2, a3, a4, a5, a6, a7⟩ := x
        obtain ⟨b1, b2, b3, b4, b5, b6, b7⟩ := y
        simp only [List.getElem?_cons_zero, List.getElem?_cons_succ] at x0 x1 x2 x3 x4 x5 x6 y0 y1 y2 y3 y4 y5 y6
        rw [Nat.add_zero] at x0 y0
        clear HX HY HP HNO HALL FA FB
        go_upto_region 6 with fail
        cases be
        · have hR : R = false := HE.out rfl
          subst hR
          clear HE HE2
          go_region
          all_goals
            go_wp2_with fail
            go_ret
            exact ⟨rfl, HB.out.drew⟩
        · have HQ := Lib.hid (HE2.out rfl)
          clear HE HE2
          go_region
          all_goals
            go_wp2_with fail
            exact ⟨⟨k + 1, by omega, by go_num, HQ.out, HB.out.drew⟩, by simp [intOf]; omega⟩
      · obtain rfl : k = N := by omega
        have c1 : ¬ ((k : Nat) : Int) < k := by omega
        have hR : R = true := HALL.out (fun i x y hx hy => HP.out i x y (by
          have := (List.getElem?_eq_some_iff.1 hx).1
          rw [HL1.out] at this
          exact this) hx hy)
        subst hR
        go_wp2_with fail
        go_ret
        exact ⟨rfl, HB.out⟩
  · rw [evsB_len hl]
    have hb : ((la.length : Int) == lb.length) = false := by simp; omega
    have hb2 : ((la.length : Int) != lb.length) = true := by simp; omega
    clear fa fb ha
    go_enter Tryz.func140, Tryz.ntmps140
    go_wp2_with fail
    go_ret
    exact ⟨rfl, Below.refl _ _⟩

set_option maxHeartbeats 400000 in
theorem same_any (w : World) (va vb : Value) (la lb : List Ev) (ha : EvAt w va la) (hb : EvAt w vb lb) (hm : la.length ≤ 4000) :
    Calls Tryz.prog 81 #[va, vb] w fun e w' => e = .returned (.bool (evsB la lb)) ∧ Below w.heap.size w w' := by
  have K := Lib.hid (equalE_any w va vb la lb ha hb hm)
  clear ha hb
  go_enter Tryz.func81, Tryz.ntmps81
  go_wp2_with fail
  refine K.out.mono ?_
  rintro e w1 ⟨rfl, hb⟩; dsimp only
  have HB := Lib.hid hb
  clear hb K
  go_wp2_with fail
  go_ret
  exact ⟨rfl, HB.out⟩
end Go.Proofs.YtcglkefaopgjeaaGreatDoor

/- Package pair: Unlike: walk. -/
namespace Go.Proofs.YtcglkefaopgjeaaGreatDoor
set_option linter.unusedSimpArgs false
set_option linter.unusedVariables false
open Go.RowKit

theorem mc27 (C : Phys) (m : Mach) : (mcells C m)[27]? = some (.pointer (some ⟨C.wb, 0, none⟩)) := rfl
def orB (x : Int) (c : Bool) (k : Int) : Int := if c then bits .or .i64 x k else x
/-- What is unlike of two machines. -/
def unlikeV (a b : Mach) (m n d : Int) : Int :=
  orB (orB (orB (orB (orB 0 (m != n) 1) (a.state != b.state) 2) (!evsB a.ev b.ev) 4) (!regsB a.r b.r d) 8) (!machB a b d) 16
structure TwoE (w wx : World) (C D : Phys) (lv lw : Value) (a b : Mach) (v : Value) : Prop where
  t : TwoM w wx C D lv lw a b
  e : EvAt wx v a.ev
structure TwoF (w wx : World) (C D : Phys) (lv lw : Value) (a b : Mach) (v u : Value) : Prop where
  t : TwoM w wx C D lv lw a b
  e : EvAt wx v a.ev
  f : EvAt wx u b.ev

set_option maxRecDepth 100000 in
set_option maxHeartbeats 3200000 in
theorem unlike_any (w : World) (C D : Phys) (lv lw : Value) (a b : Mach) (m n d : Int) (ha : Own w C lv a) (hb : Own w D lw b) (hs : a.size = b.size) (h1 : a.base + a.size ≤ 1048576) (h2 : b.base + b.size ≤ 1048576) :
    Calls Tryz.prog 36 #[.pointer (some ⟨C.b, 0, none⟩), .pointer (some ⟨D.b, 0, none⟩), .int .i64 m, .int .i64 n, .int .u16 d] w fun e w' => e = .returned (.int .i64 (unlikeV a b m n d)) ∧ Below w.heap.size w w' := by
  have T0 := Lib.hid (show TwoM w w C D lv lw a b from ⟨Below.refl _ _, ha, hb⟩)
  have KB := Lib.hid (fun wx (h : TwoM w wx C D lv lw a b) => pbytes_any wx C D lv lw a b d h.o1 h.o2 hs h1 h2)
  have KR := Lib.hid (fun w => pregs_any a.r b.r d w)
  have KE1 := Lib.hid (fun wx (h : TwoM w wx C D lv lw a b) => (events_any wx (C.wp lv) a.rs a.at_ a.ev h.o1.wor).mono (R' := fun e w' => ∃ v, e = .returned v ∧ TwoE w w' C D lv lw a b v) (by
    rintro e w' ⟨v, rfl, ho, hb⟩
    exact ⟨v, rfl, h.below hb, evAt_own ho⟩))
  have KE2 := Lib.hid (fun wx v (h : TwoE w wx C D lv lw a b v) => (events_any wx (D.wp lw) b.rs b.at_ b.ev h.t.o2.wor).mono (R' := fun e w' => ∃ u, e = .returned u ∧ TwoF w w' C D lv lw a b v u) (by
    rintro e w' ⟨u, rfl, ho, hb⟩
    exact ⟨u, rfl, h.t.below hb, h.e.below hb, evAt_own ho⟩))
  have KSM := Lib.hid (fun wx v u (h : TwoF w wx C D lv lw a b v u) => (same_any wx v u a.ev b.ev h.e h.f h.t.o1.wor.most).mono (R' := fun e w' => e = .returned (.bool (evsB a.ev b.ev)) ∧ TwoM w w' C D lv lw a b) (by
    rintro e w' ⟨rfl, hb⟩
    exact ⟨rfl, h.t.below hb⟩))
  have HU := Lib.hid (show unlikeV a b m n d = orB (orB (orB (orB (orB 0 (m != n) 1) (a.state != b.state) 2) (!evsB a.ev b.ev) 4) (!regsB a.r b.r d) 8) (!machB a b d) 16 from rfl)
  generalize unlikeV a b m n d = U at HU
  obtain ⟨ee, hee⟩ : ∃ x, evsB a.ev b.ev = x := ⟨_, rfl⟩
  obtain ⟨er, her⟩ : ∃ x, regsB a.r b.r d = x := ⟨_, rfl⟩
  obtain ⟨eb, heb⟩ : ∃ x, machB a b d = x := ⟨_, rfl⟩
  obtain ⟨em, hem⟩ : ∃ x, (m != n) = x := ⟨_, rfl⟩
  obtain ⟨es, hes⟩ : ∃ x, (a.state != b.state) = x := ⟨_, rfl⟩
  rw [hee] at KSM HU
  rw [her] at KR HU
  rw [heb] at KB HU
  rw [hem, hes] at HU
  clear ha hb hs h1 h2 hee her heb
  go_enter Tryz.func36, Tryz.ntmps36
  go_upto_if 14 with fail
  go_cut [11] (fun s11 wx => w = wx ∧ s11 = .int .i64 (orB 0 em 1))
  case first =>
    cases em
    · go_wp2_with fail
      go_meet
      exact ⟨rfl, rfl⟩
    · go_wp2_with fail
      go_meet
      exact ⟨rfl, rfl⟩
  case rest =>
  obtain ⟨rfl, rfl⟩ := hcut
  clear hem
  generalize orB 0 em 1 = o1 at HU ⊢
  go_wp2_with fail
  refine (state_any _ _ _ _ T0.out.o1).mono ?_
  rintro e w' ⟨rfl, rfl⟩; dsimp only
  go_wp2_with fail
  refine (state_any _ _ _ _ T0.out.o2).mono ?_
  rintro e w' ⟨rfl, rfl⟩; dsimp only
  go_upto_if 21 with fail
  go_cut [11] (fun s11 wx => w = wx ∧ s11 = .int .i64 (orB o1 es 2))
  case first =>
    cases es
    · go_wp2_with fail
      go_meet
      exact ⟨rfl, rfl⟩
    · go_wp2_with fail
      go_meet
      exact ⟨rfl, rfl⟩
  case rest =>
  obtain ⟨rfl, rfl⟩ := hcut
  clear hes
  generalize orB o1 es 2 = o2 at HU ⊢
  go_upto_region 6 with fail
  go_cut [35] (fun s35 wx => s35 = .bool (!ee) ∧ TwoM w wx C D lv lw a b)
  case first =>
    have S0 := Lib.hid (T0.out.below (Below.refl _ _).drew)
    have x1 : w.cell? ⟨C.b, 27, none⟩ = some (.pointer (some ⟨C.wb, 0, none⟩)) := T0.out.o1.row.cell 27
    have x2 : w.cell? ⟨D.b, 27, none⟩ = some (.pointer (some ⟨D.wb, 0, none⟩)) := T0.out.o2.row.cell 27
    clear T0
    go_region_held3 (fun w' => w'.cell? ⟨C.b, 27, none⟩ = some (.pointer (some ⟨C.wb, 0, none⟩)) ∧ w'.cell? ⟨D.b, 27, none⟩ = some (.pointer (some ⟨D.wb, 0, none⟩))) (go_keep) (first | (go_at_call 30; with_reducible refine (KE1.out _ ?_).mono ?_; (focus (refine Hid.out ?_; assumption)); rintro e w1 ⟨v1, rfl, hq⟩; have y1 : w1.cell? ⟨C.b, 27, none⟩ = some (.pointer (some ⟨C.wb, 0, none⟩)) := (hq.t.o1.row.cell 27).trans (mc27 C a); have y2 : w1.cell? ⟨D.b, 27, none⟩ = some (.pointer (some ⟨D.wb, 0, none⟩)) := (hq.t.o2.row.cell 27).trans (mc27 D b); have S1 := Lib.hid hq; clear hq) | (go_at_call 30; with_reducible refine (KE2.out _ v1 ?_).mono ?_; (focus (refine Hid.out ?_; assumption)); rintro e w2 ⟨v2, rfl, hq⟩; have y3 : w2.cell? ⟨C.b, 27, none⟩ = some (.pointer (some ⟨C.wb, 0, none⟩)) := (hq.t.o1.row.cell 27).trans (mc27 C a); have y4 : w2.cell? ⟨D.b, 27, none⟩ = some (.pointer (some ⟨D.wb, 0, none⟩)) := (hq.t.o2.row.cell 27).trans (mc27 D b); have S2 := Lib.hid hq; clear hq) | (go_at_call 81; with_reducible refine (KSM.out _ v1 v2 ?_).mono ?_; (focus (refine Hid.out ?_; assumption)); rintro e w3 ⟨rfl, hq⟩; have y5 : w3.cell? ⟨C.b, 27, none⟩ = some (.pointer (some ⟨C.wb, 0, none⟩)) := (hq.o1.row.cell 27).trans (mc27 C a); have y6 : w3.cell? ⟨D.b, 27, none⟩ = some (.pointer (some ⟨D.wb, 0, none⟩)) := (hq.o2.row.cell 27).trans (mc27 D b); have S3 := Lib.hid hq; clear hq))
    all_goals
      go_wp2_with fail
      go_meet
      exact ⟨rfl, S3.out⟩
  case rest =>
  obtain ⟨rfl, ht⟩ := hcut
  have T1 := Lib.hid ht
  clear ht T0 KE1 KE2 KSM
  go_upto_if 35 with fail
  go_cut [11] (fun s11 wx => wc = wx ∧ s11 = .int .i64 (orB o2 (!ee) 4))
  case first =>
    cases ee
    · go_wp2_with fail
      go_meet
      exact ⟨rfl, rfl⟩
    · go_wp2_with fail
      go_meet
      exact ⟨rfl, rfl⟩
  case rest =>
  obtain ⟨rfl, rfl⟩ := hcut
  generalize orB o2 (!ee) 4 = o3 at HU ⊢
  go_upto_region 8 with fail
  have g1 := T1.out.o1.sees.r
  have g2 := T1.out.o2.sees.r
  refine range_of (wc) ?_; intro S inst ω hin hout
  have q1 := range_regs hin g1
  have q2 := range_regs hin g2
  have k1 := range_call hin hout KR.out
  clear g1 g2
  refine wp_region_range_lit ω (by kernel_rfl) (by kernel_rfl) (hout _ (Below.refl _ _).drew) ?_
  repeat (go_big_quiet_step (with_reducible exact k1 _))
  refine wpQuiet_nil ?_; intro _ hw'; obtain ⟨nq, rfl⟩ := hw'
  have T2 := Lib.hid (T1.out.below (hin nq))
  clear q1 q2 k1 KR
  generalize ω nq = w2 at T2
  go_upto_if 48 with fail
  go_cut [11] (fun s11 wx => w2 = wx ∧ s11 = .int .i64 (orB o3 (!er) 8))
  case first =>
    cases er
    · go_wp2_with fail
      go_meet
      exact ⟨rfl, rfl⟩
    · go_wp2_with fail
      go_meet
      exact ⟨rfl, rfl⟩
  case rest =>
  obtain ⟨rfl, rfl⟩ := hcut
  generalize orB o3 (!er) 8 = o4 at HU ⊢
  go_wp2_with fail
  refine (KB.out _ T2.out).mono ?_
  rintro e w3 ⟨rfl, hb⟩; dsimp only
  have T3 := Lib.hid (T2.out.below hb)
  clear hb
  cases eb
  · go_wp2_with fail
    go_ret
    rw [HU.out]
    exact ⟨rfl, T3.out.bw⟩
  · go_wp2_with fail
    go_ret
    rw [HU.out]
    exact ⟨rfl, T3.out.bw⟩
end Go.Proofs.YtcglkefaopgjeaaGreatDoor

/- Package run: Start: walk. -/
namespace Go.Proofs.YtcglkefaopgjeaaGreatDoor
set_option linter.unusedSimpArgs false
set_option linter.unusedVariables false
open Go.RowKit

/-- A machine all of whose blocks were made since. -/
structure Made (w w' : World) (C : Phys) (m : Mach) : Prop where
  o : Own w' C (.slice none 0 0) m
  bw : Below w.heap.size w w'
  fb : w.heap.size ≤ C.b
  fm : w.heap.size ≤ C.mb
  fbb : w.heap.size ≤ C.bb
  ft : w.heap.size ≤ C.tb
  fw : w.heap.size ≤ C.wb
  fr : ∀ g, C.ra = some g → w.heap.size ≤ g
structure StA (w wx : World) (x : Img) (B : Nat) (p : WPhys) (rs : List Int) : Prop where
  l : LdIn w wx x B
  wo : WorldAt wx p rs 0 []
  lv : p.lv = .slice none 0 0
  fw : w.heap.size ≤ p.wb
  fr : ∀ g, p.ra = some g → w.heap.size ≤ g
theorem StA.cell {w wx : World} {x : Img} {B : Nat} {p : WPhys} {rs : List Int} (h : StA w wx x B p rs) (j : Nat) : wx.cell? ⟨B, j, none⟩ = x.cells[j]? := h.l.cell j

structure StB (w wx : World) (x : Img) (B : Nat) (C : Phys) (m : Mach) : Prop where
  l : LdIn w wx x B
  m : Made w wx C m
theorem StB.cell {w wx : World} {x : Img} {B : Nat} {C : Phys} {m : Mach} (h : StB w wx x B C m) (j : Nat) : wx.cell? ⟨B, j, none⟩ = x.cells[j]? := h.l.cell j

set_option maxRecDepth 100000 in
set_option maxHeartbeats 1600000 in
theorem start_any (x : Img) (hx : x.ok) (para : Int) (p0 : 0 ≤ para) (p1 : para ≤ 65519) (hfit : x.fitsB para = true) (rv : Value) (rs : List Int) (w : World) (hi : ImgAt w x) (hr : ∀ wx, Below w.heap.size w wx → Calls Tryz.prog 53 #[rv] wx (WNew wx rs)) :
    Calls Tryz.prog 35 #[x.val, .int .u16 para, rv] w fun e w' => ∃ C : Phys, e = .returned (.tuple #[.pointer (some ⟨C.b, 0, none⟩), .int .i64 0]) ∧ Made w w' C (loadM x para rs) := by
  have K1 := Lib.hid (fun wx (h : LdIn w wx x w.heap.size) => (hr wx h.b).mono (R' := fun e w' => ∃ p : WPhys, e = .returned (.pointer (some ⟨p.wb, 0, none⟩)) ∧ StA w w' x w.heap.size p rs) (by
    rintro e w' ⟨p, rfl, ho, hb, h1, h2, h3, h4⟩
    exact ⟨p, rfl, ⟨h.below hb, ho, h2, Nat.le_trans h.b.size h1, fun g hg => Nat.le_trans h.b.size (h3 g hg)⟩⟩))
  have K2 := Lib.hid (fun wx p (h : StA w wx x w.heap.size p rs) => (load_walk x hx para p0 p1 hfit p rs wx (hi.below h.l.b) h.wo h.lv).mono (R' := fun e w' => ∃ C : Phys, e = .returned (.tuple #[.pointer (some ⟨C.b, 0, none⟩), .int .i64 0]) ∧ StB w w' x w.heap.size C (loadM x para rs)) (by
    rintro e w' ⟨C, rfl, ho, hb, h1, h2, h3, h4, h5, h6⟩
    have hs := h.l.b.size
    exact ⟨C, rfl, h.l.below hb, ⟨ho, h.l.b.trans (hb.mono hs), by omega, by omega, by omega, by omega, by rw [h5]; exact h.fw, fun g hg => h.fr g (h6 ▸ hg)⟩⟩))
  have L0 := Lib.hid (show LdIn w (w.alloc (.cells x.cells 78)) x w.heap.size from ⟨(Below.refl _ _).alloc (Nat.le_refl _) _, Nat.le_refl _, Row.new _ _ _⟩)
  generalize loadM x para rs = M at K2 ⊢
  obtain ⟨ba, bc, ra, rc, bytes, relocs, cs, ip, sx, sp, min⟩ := x
  clear hi hr hx hfit
  go_enter Tryz.func35, Tryz.ntmps35
  go_upto_region 1 with fail
  generalize w.alloc (.cells (Img.cells ⟨ba, bc, ra, rc, bytes, relocs, cs, ip, sx, sp, min⟩) 78) = W0 at L0 ⊢
  have S0 := Lib.hid L0.out.drew
  have xc := L0.out.cell
  dsimp only [Img.cells] at xc
  clear L0
  go_region_held3 (fun w' => ∀ k, w'.cell? ⟨w.heap.size, k, none⟩ = (#[.slice ba bytes.length bc, .slice ra relocs.length rc, .int .u16 cs, .int .u16 ip, .int .u16 sx, .int .u16 sp, .int .i64 min] : Array Value)[k]?) (go_keep) (first | (go_at_call 53; with_reducible refine (K1.out _ ?_).mono ?_; (focus (refine Hid.out ?_; assumption)); rintro e w1 ⟨p, rfl, hq⟩; have y1 := hq.cell; have S1 := Lib.hid hq; clear hq) | (go_at_call 80; with_reducible refine (K2.out _ p ?_).mono ?_; (focus (refine Hid.out ?_; assumption)); rintro e w2 ⟨C, rfl, hq⟩; have y2 := hq.cell; have S2 := Lib.hid hq; clear hq))
  all_goals
    go_wp2_with fail
    go_ret2
    exact ⟨C, rfl, S2.out.m⟩
end Go.Proofs.YtcglkefaopgjeaaGreatDoor

/- Package pair: Run: walk. -/
namespace Go.Proofs.YtcglkefaopgjeaaGreatDoor
set_option linter.unusedSimpArgs false
set_option linter.unusedVariables false
open Go.RowKit

/-- So many steps at most come to a machine. -/
def RunOk (T : TypeId) (m m' : Mach) (N k : Nat) : Prop := ∀ (w : World) (C : Phys) (lv : Value), Own w C lv m → Box C lv w 0 basesC T →
  Calls Tryz.prog 31 #[.pointer (some ⟨C.b, 0, none⟩), .int .i64 N] w fun e w' => e = .returned (.int .i64 k) ∧ After C lv w m' w'
theorem below_own {N : Nat} {own : Nat → Prop} {a b c : World} (hb : Below N a b) (hf : Fr own b c) (ho : ∀ k, own k → N ≤ k) (h3 : N ≤ b.heap.size) : Below N a c :=
  ⟨hf.os.trans hb.os, hf.tape.trans hb.tape, hf.output.trans hb.output, Nat.le_trans hb.size hf.size, fun k hk => (hf.block k (Nat.lt_of_lt_of_le hk h3) (fun e => by have := ho k e; omega)).trans (hb.block k hk)⟩
theorem Made.own_ge {w w' : World} {C : Phys} {m : Mach} (h : Made w w' C m) : ∀ k, C.own (.slice none 0 0) k → w.heap.size ≤ k := by
  rintro k (e | e | e | e | e)
  · rw [e]; exact h.fb
  · rw [e]; exact h.fbb
  · rw [e]; exact h.ft
  · rw [e]; exact h.fw
  · cases e
theorem Made.own_lt {w w' : World} {C : Phys} {m : Mach} (h : Made w w' C m) : ∀ k, C.own (.slice none 0 0) k → k < w'.heap.size := by
  rintro k (e | e | e | e | e)
  · rw [e]; exact h.o.row.lt
  · rw [e]; exact h.o.mem.b.lt
  · rw [e]; exact h.o.mem.t.lt
  · rw [e]; exact h.o.wor.row.lt
  · cases e
/-- Another machine's run leaves a machine as it is. -/
theorem Own.beside {w w1 w2 w' : World} {C D : Phys} {lv : Value} {m b : Mach} (h : Own w C lv m) (hd : Made w1 w2 D b) (hf : Fr (D.own (.slice none 0 0)) w w') (hC : C.b < w1.heap.size ∧ C.mb < w1.heap.size ∧ C.bb < w1.heap.size ∧ C.tb < w1.heap.size ∧ C.wb < w1.heap.size ∧ ∀ g, C.ra = some g → g < w1.heap.size) (hl : ∀ g, lv.ownBlock = some g → w2.heap.size ≤ g) : Own w' C lv m := by
  have ge := hd.own_ge
  have lt := hd.own_lt
  obtain ⟨c1, c2, c3, c4, c5, c6⟩ := hC
  exact h.kept hf (fun e => by have := ge _ e; omega) (fun e => by have := ge _ e; omega) (fun e => by have := ge _ e; omega) (fun e => by have := ge _ e; omega) (fun e => by have := ge _ e; omega) (fun g hg e => by have := ge _ e; have := c6 g hg; omega) (fun g hg e => by have := lt _ e; have := hl g hg; omega)

set_option maxRecDepth 100000 in
set_option maxHeartbeats 3200000 in
theorem prun_any (x : Img) (hx : x.ok) (p q : Int) (p0 : 0 ≤ p) (p1 : p ≤ 65519) (q0 : 0 ≤ q) (q1 : q ≤ 65519) (hp : x.fitsB p = true) (hq : x.fitsB q = true) (rv : Value) (rs : List Int) (w : World) (hi : ImgAt w x) (hr : ∀ wx, Below w.heap.size w wx → Calls Tryz.prog 53 #[rv] wx (WNew wx rs))
    (T : TypeId) (hT : Row w 0 basesC T) (a b : Mach) (N m n : Nat) (KA : RunOk T (loadM x p rs) a N m) (KB : RunOk T (loadM x q rs) b N n) (hs : a.size = b.size) (h1 : a.base + a.size ≤ 1048576) (h2 : b.base + b.size ≤ 1048576) :
    Calls Tryz.prog 33 #[x.val, .int .u16 p, .int .u16 q, rv, .int .i64 N] w fun e w' => e = .returned (.tuple #[.int .i64 (unlikeV a b m n (IntKind.u16.wrap (q - p))), .int .i64 a.state, .int .i64 0]) ∧ Below w.heap.size w w' := by
  have K1 := Lib.hid (fun wx (h : LdIn w wx x w.heap.size) => start_any x hx p p0 p1 hp rv rs wx (hi.below h.b) (fun wy hy => hr wy (h.b.trans (hy.mono h.b.size))))
  have K2 := Lib.hid (fun wx (h : LdIn w wx x w.heap.size) => start_any x hx q q0 q1 hq rv rs wx (hi.below h.b) (fun wy hy => hr wy (h.b.trans (hy.mono h.b.size))))
  have L0 := Lib.hid (show LdIn w (w.alloc (.cells x.cells 78)) x w.heap.size from ⟨(Below.refl _ _).alloc (Nat.le_refl _) _, Nat.le_refl _, Row.new _ _ _⟩)
  generalize loadM x p rs = a0 at K1 KA
  generalize loadM x q rs = b0 at K2 KB
  have HT := Lib.hid hT
  have KA := Lib.hid KA
  have KB := Lib.hid KB
  have KU := Lib.hid (fun wx C D lv lw ha hb => unlike_any wx C D lv lw a b m n (IntKind.u16.wrap (q - p)) ha hb hs h1 h2)
  generalize unlikeV a b m n (IntKind.u16.wrap (q - p)) = U at KU ⊢
  obtain ⟨ba, bc, ra, rc, bytes, relocs, cs, ip, sx, sp, min⟩ := x
  clear hi hr hx hp hq hT hs h1 h2
  go_enter Tryz.func33, Tryz.ntmps33
  go_upto_region 1 with fail
  generalize w.alloc (.cells (Img.cells ⟨ba, bc, ra, rc, bytes, relocs, cs, ip, sx, sp, min⟩) 78) = W0 at L0 ⊢
  have xc := L0.out.cell
  dsimp only [Img.cells] at xc
  go_wp2_with fail
  refine (K1.out _ L0.out).mono ?_
  rintro e w1 ⟨C, rfl, hm⟩; dsimp only
  have M1 := Lib.hid hm
  have L1 := Lib.hid (L0.out.below hm.bw)
  clear xc hm
  have xc := L1.out.cell
  dsimp only [Img.cells] at xc
  go_wp2_with fail
  refine (K2.out _ L1.out).mono ?_
  rintro e w2 ⟨D, rfl, hm⟩; dsimp only
  have M2 := Lib.hid hm
  have L2 := Lib.hid (L1.out.below hm.bw)
  clear xc hm
  have oa := M1.out.o.below M2.out.bw
  have hz : 0 < w.heap.size := HT.out.lt
  have b2 := Below.row L2.out.b HT.out hz
  have hC := (show C.b < w1.heap.size ∧ C.mb < w1.heap.size ∧ C.bb < w1.heap.size ∧ C.tb < w1.heap.size ∧ C.wb < w1.heap.size ∧ ∀ g, C.ra = some g → g < w1.heap.size from ⟨M1.out.o.row.lt, M1.out.o.mem.r.lt, M1.out.o.mem.b.lt, M1.out.o.mem.t.lt, M1.out.o.wor.row.lt, fun g hg => Nat.lt_of_lt_of_le (M1.out.o.wor.repB g hg).1 M1.out.o.wor.baseB⟩)
  have HC := Lib.hid hC
  have gC : ∀ k, C.own (.slice none 0 0) k → w.heap.size ≤ k := fun k hk => Nat.le_trans L0.out.b.size (M1.out.own_ge k hk)
  have gD : ∀ k, D.own (.slice none 0 0) k → w.heap.size ≤ k := fun k hk => Nat.le_trans L1.out.b.size (M2.out.own_ge k hk)
  have GC := Lib.hid gC
  have GD := Lib.hid gD
  have KA1 := Lib.hid (KA.out w2 C _ oa ⟨b2, fun e => by have := gC 0 e; omega⟩)
  clear oa b2 hC gC gD KA
  go_wp2_with fail
  refine KA1.out.mono ?_
  rintro e w3 ⟨rfl, lv1, o1, f1, k1⟩; dsimp only
  have s1 := M1.out.own_lt
  have s2 := M2.out.bw.size
  have od : Own w3 D (.slice none 0 0) b0 := by
    have hd := M2.out
    exact hd.o.kept f1 (fun e => by have := s1 _ e; have := hd.fb; omega) (fun e => by have := s1 _ e; have := hd.fm; omega) (fun e => by have := s1 _ e; have := hd.fbb; omega) (fun e => by have := s1 _ e; have := hd.ft; omega) (fun e => by have := s1 _ e; have := hd.fw; omega) (fun g hg e => by have := s1 _ e; have := hd.fr g hg; omega) (fun g hg => by cases hg)
  have b3 : Row w3 0 basesC T := f1.row (Below.row L2.out.b HT.out hz) (fun e => by have := GC.out 0 e; omega)
  have KB1 := Lib.hid (KB.out w3 D _ od ⟨b3, fun e => by have := GD.out 0 e; omega⟩)
  have B3 := Lib.hid (below_own L2.out.b f1 GC.out L2.out.b.size)
  have O1 := Lib.hid o1
  have KL := Lib.hid (show ∀ g, lv1.ownBlock = some g → w2.heap.size ≤ g from fun g hg => (k1 g hg).resolve_left (by intro e; cases e))
  clear o1 f1 k1 s1 od b3 KA1 KB
  go_wp2_with fail
  refine KB1.out.mono ?_
  rintro e w4 ⟨rfl, lv2, o2, f2, k2⟩; dsimp only
  have O1' := Lib.hid (O1.out.beside M2.out f2 HC.out KL.out)
  have B4 := Lib.hid (below_own B3.out f2 GD.out B3.out.size)
  have O2 := Lib.hid o2
  clear o2 f2 k2 KB1 O1
  go_wp2_with fail
  refine (KU.out _ _ _ _ _ O1'.out O2.out).mono ?_
  rintro e w5 ⟨rfl, hb⟩; dsimp only
  have O5 := Lib.hid (O1'.out.below hb)
  have B5 := Lib.hid (B4.out.trans (hb.mono B4.out.size))
  clear hb
  go_wp2_with fail
  refine (state_any _ _ _ _ O5.out).mono ?_
  rintro e w' ⟨rfl, rfl⟩; dsimp only
  go_wp2_with fail
  go_ret3
  exact ⟨rfl, B5.out⟩
end Go.Proofs.YtcglkefaopgjeaaGreatDoor

/- Package hansomlaw47: awake: what its machines come to. -/
namespace Go.Proofs.YtcglkefaopgjeaaGreatDoor
set_option linter.unusedSimpArgs false
set_option linter.unusedVariables false
open Go.RowKit

theorem loadM_congr (x y : Img) (p : Int) (rs : List Int) (h1 : x.bytes = y.bytes) (h2 : x.relocs = y.relocs) (h3 : x.cs = y.cs) (h4 : x.ip = y.ip) (h5 : x.ss = y.ss) (h6 : x.sp = y.sp) (h7 : x.min = y.min) : loadM x p rs = loadM y p rs := by
  obtain ⟨a1, a2, a3, a4, b, c, d, e, f, g, h⟩ := x
  obtain ⟨b1, b2, b3, b4, b', c', d', e', f', g', h'⟩ := y
  dsimp only at h1 h2 h3 h4 h5 h6 h7
  subst h1 h2 h3 h4 h5 h6 h7
  have hr : ∀ (F t : Nat → Int) k, relM ⟨a1, a2, a3, a4, b, c, d, e, f, g, h⟩ p F t k = relM ⟨b1, b2, b3, b4, b, c, d, e, f, g, h⟩ p F t k := by
    intro F t k
    induction k with
    | zero => rfl
    | succ k ih => rw [relM, relM, ih]
  unfold loadM loadP
  rw [hr]
  rfl
def awkI : Img := ⟨none, 0, none, 0, [14, 31, 244], [], 0, 0, 1, 64, 8⟩
def awA0 (p : Int) : Mach := loadM awkI p []
def awA1 (p : Int) : Mach := ((awA0 p).on 1).doPush (opI 14 false 0 0) ⟨9, 23, 0, false⟩
def awA2 (p : Int) : Mach := ((awA1 p).on 1).doPop (opI 31 false 0 0) ⟨10, 23, 0, false⟩
def awA3 (p : Int) : Mach := ((awA2 p).on 1).end 4
theorem aw_says : (awA0 256).code 0 = 14 ∧ (awA1 256).code 0 = 31 ∧ (awA2 256).code 0 = 244 ∧ (awA0 256).plainB (-1) 1 = true ∧ (awA1 256).plainB (-1) 1 = true ∧ (awA2 256).plainB (-1) 1 = true ∧ (awA0 256).state = 0 ∧ (awA1 256).state = 0 ∧ (awA2 256).state = 0 ∧ (awA3 256).state = 1 := by
  decide +kernel
theorem aw_says2 : (awA0 17185).code 0 = 14 ∧ (awA1 17185).code 0 = 31 ∧ (awA2 17185).code 0 = 244 ∧ (awA0 17185).plainB (-1) 1 = true ∧ (awA1 17185).plainB (-1) 1 = true ∧ (awA2 17185).plainB (-1) 1 = true ∧ (awA0 17185).state = 0 ∧ (awA1 17185).state = 0 ∧ (awA2 17185).state = 0 ∧ (awA3 17185).state = 1 := by
  decide +kernel
theorem aw_alike : unlikeV (awA3 256) (awA3 256) 3 3 0 = 0 ∧ unlikeV (awA3 256) (awA3 17185) 3 3 16929 = 0 := by
  decide +kernel

/-- An instruction of one byte is done, wherever the machine stands. -/
theorem step_one {C : Phys} {m m' : Mach} (h0 : m.state = 0) (op : Int) (o0 : 0 ≤ op) (o1 : op ≤ 255) (hc : m.code 0 = op) (ho : aloneB op = true) (hp : m.plainB (-1) 1 = true) (r : IRow) (hr : isaOf op 0 = some r) (hrep : repsOf r.name = 0) (hfl : isFlow r.name = false)
    (hdo : ∀ (w : World) (lv : Value), Own w C lv (m.on 1) → Calls Tryz.prog 75 #[.pointer (some ⟨C.b, 0, none⟩), Inst.val (opI op false 0 0), r.val, V.val ⟨0, false⟩] w fun e w' => e = .returned (.tuple #[]) ∧ After C lv w m' w') : StepOk C m m' := by
  have hpr : isPre op = false := by
    unfold aloneB at ho
    simp only [Bool.and_eq_true, Bool.not_eq_true'] at ho
    exact ho.1.1.1
  intro w lv h
  exact step_any w C lv m m' h h0 (opI op false 0 0) 1 (take_alone m.code op hc ho) hp (by decide) r (by rw [instRow, hpr]; exact hr) (opI_wf op o0 o1 0 (by decide) (by decide)) hrep hfl hdo
theorem aw_run (p : Int) (T : TypeId) (h : (awA0 p).code 0 = 14 ∧ (awA1 p).code 0 = 31 ∧ (awA2 p).code 0 = 244 ∧ (awA0 p).plainB (-1) 1 = true ∧ (awA1 p).plainB (-1) 1 = true ∧ (awA2 p).plainB (-1) 1 = true ∧ (awA0 p).state = 0 ∧ (awA1 p).state = 0 ∧ (awA2 p).state = 0 ∧ (awA3 p).state = 1) : RunOk T (awA0 p) (awA3 p) 9 3 := by
  obtain ⟨c0, c1, c2, p0, p1, p2, s0, s1, s2, s3⟩ := h
  intro w C lv ho _
  have S0 : StepOk C (awA0 p) (awA1 p) := by
    refine step_one s0 14 (by decide) (by decide) c0 (by decide) p0 ⟨9, 23, 0, false⟩ rfl (by decide) (by decide) ?_
    intro w lv h
    refine do_stack w C lv _ _ h _ ⟨9, 23, 0, false⟩ ⟨0, false⟩ (Or.inl rfl) ?_
    intro w lv h
    exact stack_push w C lv _ h _ ⟨9, 23, 0, false⟩ (by decide) (by decide) rfl (getOk_bare _ (by decide) (by decide) 23 (by decide) (by decide))
  have S1 : StepOk C (awA1 p) (awA2 p) := by
    refine step_one s1 31 (by decide) (by decide) c1 (by decide) p1 ⟨10, 23, 0, false⟩ rfl (by decide) (by decide) ?_
    intro w lv h
    refine do_stack w C lv _ _ h _ ⟨10, 23, 0, false⟩ ⟨0, false⟩ (Or.inr (Or.inl rfl)) ?_
    intro w lv h
    exact stack_pop w C lv _ h _ ⟨10, 23, 0, false⟩ rfl (putOk_bare _ (by decide) (by decide) 23 (by decide) (by decide))
  have S2 : StepOk C (awA2 p) (awA3 p) := by
    refine step_one s2 244 (by decide) (by decide) c2 (by decide) p2 ⟨82, 0, 0, false⟩ rfl (by decide) (by decide) ?_
    intro w lv h
    refine do_flags w C lv _ _ h _ ⟨82, 0, 0, false⟩ ⟨0, false⟩ (by decide) ?_
    intro w lv h
    exact flags_82 w C lv _ h ⟨82, 0, 0, false⟩ rfl
  exact run_any w C lv (fun k => match k with | 0 => awA0 p | 1 => awA1 p | 2 => awA2 p | _ => awA3 p) 3 9 (by decide) (by decide) ho (fun k hk => by
    match k, hk with
    | 0, _ => exact S0
    | 1, _ => exact S1
    | 2, _ => exact S2) (Or.inr (by show (awA3 p).state ≠ 0; rw [s3]; decide))
theorem aw_ok : awkI.ok := by
  refine ⟨fun k => ?_, by decide, by decide, by decide, by decide, fun k hk => absurd hk (Nat.not_lt_zero _), fun k hk => absurd hk (Nat.not_lt_zero _), by decide⟩
  match k with
  | 0 => exact ⟨by decide, by decide⟩
  | 1 => exact ⟨by decide, by decide⟩
  | 2 => exact ⟨by decide, by decide⟩
  | k + 3 => exact ⟨by simp [awkI], by simp [awkI]⟩
theorem slAt_new3 (w : World) (a b c : Int) : SlAt (w.alloc (.cells #[.int .u8 a, .int .u8 b, .int .u8 c] 5)) (.int .u8) (some ⟨w.heap.size, 0, none⟩) [a, b, c] := by
  intro k hk
  refine ⟨_, rfl, by simp, ?_⟩
  rw [(Row.new w #[.int .u8 a, .int .u8 b, .int .u8 c] 5).cell]
  match k, hk with
  | 0, _ => rfl
  | 1, _ => rfl
  | 2, _ => rfl
def awkJ (g : Nat) : Img := ⟨some ⟨g, 0, none⟩, 3, none, 0, [14, 31, 244], [], 0, 0, 1, 64, 8⟩
theorem awkJ_ok (g : Nat) : (awkJ g).ok := ⟨aw_ok.by_, aw_ok.len, aw_ok.min0, aw_ok.min1, aw_ok.many, aw_ok.at_, aw_ok.far, aw_ok.w⟩
theorem awkJ_load (g : Nat) (p : Int) (rs : List Int) : loadM (awkJ g) p rs = loadM awkI p rs := loadM_congr _ _ _ _ rfl rfl rfl rfl rfl rfl rfl

theorem awkJ_size (g : Nat) : (awkJ g).size = 400 := by simp [Img.size, awkJ, parasN]
theorem awkJ_fits (g : Nat) (q : Int) (h : q ≤ 40000) : (awkJ g).fitsB q = true := by
  unfold Img.fitsB
  rw [awkJ_size, decide_eq_true_eq]
  omega
theorem aw_sizes : (awA3 256).size = 400 ∧ (awA3 17185).size = 400 ∧ (awA3 256).base = 4096 ∧ (awA3 17185).base = 274960 := by decide +kernel
theorem awRun_256 (g : Nat) (T : TypeId) : RunOk T (loadM (awkJ g) 256 []) (awA3 256) 9 3 := by
  rw [awkJ_load]
  exact aw_run 256 T aw_says
theorem awRun_17185 (g : Nat) (T : TypeId) : RunOk T (loadM (awkJ g) 17185 []) (awA3 17185) 9 3 := by
  rw [awkJ_load]
  exact aw_run 17185 T aw_says2
theorem aw_one (g : Nat) (w : World) (hi : ImgAt w (awkJ g)) (T : TypeId) (hT : Row w 0 basesC T) :
    Calls Tryz.prog 33 #[(awkJ g).val, .int .u16 256, .int .u16 256, .slice none 0 0, .int .i64 9] w fun e w' => e = .returned (.tuple #[.int .i64 0, .int .i64 1, .int .i64 0]) ∧ Below w.heap.size w w' := by
  obtain ⟨z1, z2, z3, z4⟩ := aw_sizes
  have := prun_any (awkJ g) (awkJ_ok g) 256 256 (by decide) (by decide) (by decide) (by decide) (awkJ_fits g _ (by decide)) (awkJ_fits g _ (by decide)) (.slice none 0 0) [] w hi (fun wx _ => worldNew_nil wx) T hT (awA3 256) (awA3 256) 9 3 3 (awRun_256 g T) (awRun_256 g T) rfl (by rw [z1, z3]; decide) (by rw [z1, z3]; decide)
  rw [show IntKind.u16.wrap (256 - 256) = 0 from rfl, show (((3 : Nat) : Int)) = 3 from rfl, aw_alike.1, aw_says.2.2.2.2.2.2.2.2.2] at this
  exact this
theorem aw_two (g : Nat) (w : World) (hi : ImgAt w (awkJ g)) (T : TypeId) (hT : Row w 0 basesC T) :
    Calls Tryz.prog 33 #[(awkJ g).val, .int .u16 256, .int .u16 17185, .slice none 0 0, .int .i64 9] w fun e w' => e = .returned (.tuple #[.int .i64 0, .int .i64 1, .int .i64 0]) ∧ Below w.heap.size w w' := by
  obtain ⟨z1, z2, z3, z4⟩ := aw_sizes
  have := prun_any (awkJ g) (awkJ_ok g) 256 17185 (by decide) (by decide) (by decide) (by decide) (awkJ_fits g _ (by decide)) (awkJ_fits g _ (by decide)) (.slice none 0 0) [] w hi (fun wx _ => worldNew_nil wx) T hT (awA3 256) (awA3 17185) 9 3 3 (awRun_256 g T) (awRun_17185 g T) (by rw [z1, z2]) (by rw [z1, z3]; decide) (by rw [z2, z4]; decide)
  rw [show IntKind.u16.wrap (17185 - 256) = 16929 from rfl, show (((3 : Nat) : Int)) = 3 from rfl, aw_alike.2, aw_says.2.2.2.2.2.2.2.2.2] at this
  exact this

set_option maxRecDepth 100000 in
set_option maxHeartbeats 1600000 in
theorem awake47_any (w : World) (T : TypeId) (hT : Row w 0 basesC T) : Calls Tryz.prog 34 #[] w fun e w' => e = .returned (.bool true) ∧ Below w.heap.size w w' := by
  have hs := slAt_new3 w 14 31 244
  have I0 := Lib.hid (show ImgAt (w.alloc (.cells #[.int .u8 14, .int .u8 31, .int .u8 244] 5)) (awkJ w.heap.size) from ⟨hs, fun k hk => absurd hk (Nat.not_lt_zero _)⟩)
  have L0 := Lib.hid (show LdIn (w.alloc (.cells #[.int .u8 14, .int .u8 31, .int .u8 244] 5)) ((w.alloc (.cells #[.int .u8 14, .int .u8 31, .int .u8 244] 5)).alloc (.cells (awkJ w.heap.size).cells 78)) (awkJ w.heap.size) (w.heap.size + 1) from ⟨(Below.refl _ _).alloc (Nat.le_refl _) _, by simp, Row.new' (by simp)⟩)
  have HT := Lib.hid (hT.alloc (.cells #[.int .u8 14, .int .u8 31, .int .u8 244] 5))
  have HB := Lib.hid ((Below.refl w.heap.size w).alloc (Nat.le_refl _) (.cells #[.int .u8 14, .int .u8 31, .int .u8 244] 5))
  have HSZ := Lib.hid (show w.heap.size ≤ (w.alloc (.cells #[.int .u8 14, .int .u8 31, .int .u8 244] 5)).heap.size by simp)
  clear hs hT
  go_enter Tryz.func34, Tryz.ntmps34
  go_upto_region 2 with fail
  generalize w.alloc (.cells #[.int .u8 14, .int .u8 31, .int .u8 244] 5) = wa at I0 L0 HT HB HSZ ⊢
  have K1 := Lib.hid (fun wx (h : LdIn wa wx (awkJ w.heap.size) (w.heap.size + 1)) => aw_one w.heap.size wx (I0.out.below h.b) T (Below.row h.b HT.out HT.out.lt))
  have K2 := Lib.hid (fun wx (h : LdIn wa wx (awkJ w.heap.size) (w.heap.size + 1)) => aw_two w.heap.size wx (I0.out.below h.b) T (Below.row h.b HT.out HT.out.lt))
  dsimp only [awkJ, Img.cells, List.length_cons, List.length_nil] at L0 ⊢
  have L1 := Lib.hid (show LdIn wa (wa.alloc (.cells #[.slice (some ⟨w.heap.size, 0, none⟩) 3 3, .slice none 0 0, .int .u16 0, .int .u16 0, .int .u16 1, .int .u16 64, .int .i64 8] 78)) (awkJ w.heap.size) (w.heap.size + 1) from L0.out)
  clear L0
  generalize wa.alloc (.cells #[.slice (some ⟨w.heap.size, 0, none⟩) 3 3, .slice none 0 0, .int .u16 0, .int .u16 0, .int .u16 1, .int .u16 64, .int .i64 8] 78) = wb at L1 ⊢
  have xc : ∀ j, wb.cell? ⟨w.heap.size + 1, j, none⟩ = (#[.slice (some ⟨w.heap.size, 0, none⟩) 3 3, .slice none 0 0, .int .u16 0, .int .u16 0, .int .u16 1, .int .u16 64, .int .i64 8] : Array Value)[j]? := L1.out.cell
  go_wp2_with fail
  refine (K1.out _ L1.out).mono ?_
  rintro e w1 ⟨rfl, hb⟩; dsimp only
  have L2 := Lib.hid (L1.out.below hb)
  clear hb xc
  have xc : ∀ j, w1.cell? ⟨w.heap.size + 1, j, none⟩ = (#[.slice (some ⟨w.heap.size, 0, none⟩) 3 3, .slice none 0 0, .int .u16 0, .int .u16 0, .int .u16 1, .int .u16 64, .int .i64 8] : Array Value)[j]? := L2.out.cell
  go_wp2_with fail
  refine (K2.out _ L2.out).mono ?_
  rintro e w2 ⟨rfl, hb⟩; dsimp only
  have L3 := Lib.hid (L2.out.below hb)
  have HQ := Lib.hid (HB.out.trans (L3.out.b.mono HSZ.out))
  clear hb xc
  go_wp2_with fail
  go_ret
  exact ⟨rfl, HQ.out⟩
end Go.Proofs.YtcglkefaopgjeaaGreatDoor

/- What PairFinds asks of its two machines and of registers: plain laws. -/
namespace Go.Proofs.YtcglkefaopgjeaaGreatDoor
set_option linter.unusedSimpArgs false
set_option linter.unusedVariables false
open Go.RowKit

def fI : Img := ⟨none, 0, none, 0, [1, 2, 3, 4], [1], 0, 0, 0, 0, 0⟩
def fA : Mach := loadM fI 256 []
def fB0 : Mach := loadM fI 384 []
def fB : Nat → Mach
  | 0 => { fB0 with at_ := 0, ev := noteL fB0.ev ⟨2, 1, 2, 0, 0, 0, 0⟩ }
  | 1 => fB0.stuck
  | 2 => { fB0 with mem := upd fB0.mem 6400 9, tag := upd fB0.tag 6400 0 }
  | 3 => { fB0 with mem := setF fB0.mem (lin 400 1) (lin 400 2) 7, tag := setT fB0.tag (lin 400 1) (lin 400 2) true }
  | _ => fB0
def fW : Nat → Int
  | 0 => 4
  | 1 => 2
  | 2 => 16
  | 3 => 16
  | 4 => 1
  | 5 => 24
  | _ => 0
def fN (k : Nat) : Int := if k = 4 then 4 else 3
def fD (k : Nat) : Int := if k = 5 then 129 else 128
theorem f_first : unlikeV fA fB0 3 3 128 = 0 := by decide +kernel
theorem f_unlike : ∀ k : Fin 8, unlikeV fA (fB k) 3 (fN k) (fD k) = fW k := by decide +kernel
theorem f_bytes : ∀ k : Fin 8, machB fA (fB k) (fD k) = (bits .and .i64 (fW k) 16 == 0) := by decide +kernel
theorem f_size : fA.size = 272 ∧ fA.base = 4096 ∧ ∀ k : Fin 8, (fB k).size = 272 ∧ (fB k).base = 6144 := by decide +kernel
theorem f_nd (k : Nat) (h : k < 8) : (fW k = 1 → fN k = 4) ∧ (fW k ≠ 1 → fN k = 3) ∧ (fW k = 24 → fD k = 129) ∧ (fW k ≠ 24 → fD k = 128) := by
  have hc : k = 0 ∨ k = 1 ∨ k = 2 ∨ k = 3 ∨ k = 4 ∨ k = 5 ∨ k = 6 ∨ k = 7 := by omega
  rcases hc with rfl | rfl | rfl | rfl | rfl | rfl | rfl | rfl <;> decide
theorem f_ok : fI.ok := by
  refine ⟨fun k => ?_, by decide, by decide, by decide, by decide, fun k hk => ?_, fun k hk => ?_, by decide⟩
  · match k with
    | 0 => exact ⟨by decide, by decide⟩
    | 1 => exact ⟨by decide, by decide⟩
    | 2 => exact ⟨by decide, by decide⟩
    | 3 => exact ⟨by decide, by decide⟩
    | k + 4 => exact ⟨by simp [fI], by simp [fI]⟩
  · obtain rfl : k = 0 := by have : k < 1 := hk; omega
    exact ⟨by decide, by decide⟩
  · have : k + 1 < 1 := hk
    omega
def fJ (g h : Nat) : Img := ⟨some ⟨g, 0, none⟩, 4, some ⟨h, 0, none⟩, 1, [1, 2, 3, 4], [1], 0, 0, 0, 0, 0⟩
theorem fJ_ok (g h : Nat) : (fJ g h).ok := ⟨f_ok.by_, f_ok.len, f_ok.min0, f_ok.min1, f_ok.many, f_ok.at_, f_ok.far, f_ok.w⟩
theorem fJ_load (g h : Nat) (p : Int) (rs : List Int) : loadM (fJ g h) p rs = loadM fI p rs := loadM_congr _ _ _ _ rfl rfl rfl rfl rfl rfl rfl
theorem fJ_fits (g h : Nat) (q : Int) (hq : q ≤ 40000) : (fJ g h).fitsB q = true := by
  unfold Img.fitsB
  rw [show (fJ g h).size = 272 by simp [Img.size, fJ, parasN], decide_eq_true_eq]
  omega

/-- A register that counts from a paragraph goes on. -/
def shV (x : V) (d : Int) : V := if x.t then ⟨(x.v + d) % 65536, true⟩ else x
def shG (r : Regs) (d : Int) : Nat → Regs
  | 0 => r
  | k + 1 => (shG r d k).put k (shV ((shG r d k).get k) d)
def shS (r : Regs) (d : Int) : Nat → Regs
  | 0 => shG r d 8
  | k + 1 => (shS r d k).putSeg k (shV ((shS r d k).seg k) d)
theorem shS_all (r : Regs) (d : Int) : shS r d 4 = ⟨shV r.g0 d, shV r.g1 d, shV r.g2 d, shV r.g3 d, shV r.g4 d, shV r.g5 d, shV r.g6 d, shV r.g7 d, shV r.s0 d, shV r.s1 d, shV r.s2 d, shV r.s3 d, r.ip, r.f⟩ := rfl
theorem alike_sh (x : V) (d : Int) : alikeB x (shV x d) d = true := by
  obtain ⟨v, t⟩ := x
  cases t <;> simp [alikeB, shV]
theorem regs_sh (r : Regs) (d : Int) : regsB r (shS r d 4) d = true := by
  rw [shS_all]
  have hg : regsL r ⟨shV r.g0 d, shV r.g1 d, shV r.g2 d, shV r.g3 d, shV r.g4 d, shV r.g5 d, shV r.g6 d, shV r.g7 d, shV r.s0 d, shV r.s1 d, shV r.s2 d, shV r.s3 d, r.ip, r.f⟩ d 8 = true := by
    show ((((((((true && alikeB r.g0 (shV r.g0 d) d) && alikeB r.g1 (shV r.g1 d) d) && alikeB r.g2 (shV r.g2 d) d) && alikeB r.g3 (shV r.g3 d) d) && alikeB r.g4 (shV r.g4 d) d) && alikeB r.g5 (shV r.g5 d) d) && alikeB r.g6 (shV r.g6 d) d) && alikeB r.g7 (shV r.g7 d) d) = true
    simp only [alike_sh, Bool.and_self]
  have hs : segsL r ⟨shV r.g0 d, shV r.g1 d, shV r.g2 d, shV r.g3 d, shV r.g4 d, shV r.g5 d, shV r.g6 d, shV r.g7 d, shV r.s0 d, shV r.s1 d, shV r.s2 d, shV r.s3 d, r.ip, r.f⟩ d 4 = true := by
    show ((((true && alikeB r.s0 (shV r.s0 d) d) && alikeB r.s1 (shV r.s1 d) d) && alikeB r.s2 (shV r.s2 d) d) && alikeB r.s3 (shV r.s3 d) d) = true
    simp only [alike_sh, Bool.and_self]
  unfold regsB
  rw [hg, hs]
  simp
theorem regs_ip (r q : Regs) (d : Int) (h : (r.ip == q.ip) = false) : regsB r q d = false := by
  unfold regsB
  rw [h]
  simp
theorem cellV (q : Regs) (k : Nat) (h : k < 8) : q.cells[k * 2]? = some (.int .u16 (q.get k).v) := by
  match k, h with
  | 0, _ | 1, _ | 2, _ | 3, _ | 4, _ | 5, _ | 6, _ | 7, _ => rfl
theorem cellT (q : Regs) (k : Nat) (h : k < 8) : q.cells[k * 2 + 1]? = some (.bool (q.get k).t) := by
  match k, h with
  | 0, _ | 1, _ | 2, _ | 3, _ | 4, _ | 5, _ | 6, _ | 7, _ => rfl
theorem cellP (q : Regs) (k : Nat) (h : k < 8) (x : Int) : q.cells.setIfInBounds (k * 2) (.int .u16 x) = (q.put k ⟨x, (q.get k).t⟩).cells := by
  have hc : k = 0 ∨ k = 1 ∨ k = 2 ∨ k = 3 ∨ k = 4 ∨ k = 5 ∨ k = 6 ∨ k = 7 := by omega
  rcases hc with rfl | rfl | rfl | rfl | rfl | rfl | rfl | rfl <;> rfl
theorem segV (q : Regs) (k : Nat) (h : k < 4) : q.cells[16 + k * 2]? = some (.int .u16 (q.seg k).v) := by
  match k, h with
  | 0, _ | 1, _ | 2, _ | 3, _ => rfl
theorem segT (q : Regs) (k : Nat) (h : k < 4) : q.cells[16 + k * 2 + 1]? = some (.bool (q.seg k).t) := by
  match k, h with
  | 0, _ | 1, _ | 2, _ | 3, _ => rfl
theorem segP (q : Regs) (k : Nat) (h : k < 4) (x : Int) : q.cells.setIfInBounds (16 + k * 2) (.int .u16 x) = (q.putSeg k ⟨x, (q.seg k).t⟩).cells := by
  have hc : k = 0 ∨ k = 1 ∨ k = 2 ∨ k = 3 := by omega
  rcases hc with rfl | rfl | rfl | rfl <;> rfl
theorem ipP (q : Regs) (x : Int) : q.cells.setIfInBounds 24 (.int .u16 x) = ({ q with ip := x } : Regs).cells := rfl
theorem put_get (q : Regs) (k : Nat) (h : k < 8) : q.put k (q.get k) = q := by
  match k, h with
  | 0, _ | 1, _ | 2, _ | 3, _ | 4, _ | 5, _ | 6, _ | 7, _ => rfl
theorem putSeg_seg (q : Regs) (k : Nat) (h : k < 4) : q.putSeg k (q.seg k) = q := by
  match k, h with
  | 0, _ | 1, _ | 2, _ | 3, _ => rfl
theorem shG_no (r : Regs) (d : Int) (k : Nat) (h : k < 8) (ht : ((shG r d k).get k).t = false) : shG r d (k + 1) = shG r d k := by
  rw [shG, shV, ht, if_neg (by decide), put_get _ _ h]
theorem shG_yes (r : Regs) (d : Int) (k : Nat) (h : k < 8) (ht : ((shG r d k).get k).t = true) : (shG r d k).cells.setIfInBounds (k * 2) (.int .u16 ((((shG r d k).get k).v + d) % 65536)) = (shG r d (k + 1)).cells := by
  rw [cellP _ _ h, shG, shV, ht, if_pos rfl]
theorem shS_no (r : Regs) (d : Int) (k : Nat) (h : k < 4) (ht : ((shS r d k).seg k).t = false) : shS r d (k + 1) = shS r d k := by
  rw [shS, shV, ht, if_neg (by decide), putSeg_seg _ _ h]
theorem shS_yes (r : Regs) (d : Int) (k : Nat) (h : k < 4) (ht : ((shS r d k).seg k).t = true) : (shS r d k).cells.setIfInBounds (16 + k * 2) (.int .u16 ((((shS r d k).seg k).v + d) % 65536)) = (shS r d (k + 1)).cells := by
  rw [segP _ _ h, shS, shV, ht, if_pos rfl]
end Go.Proofs.YtcglkefaopgjeaaGreatDoor

/- The law PairFinds. -/
namespace Go.Proofs.YtcglkefaopgjeaaGreatDoor
set_option linter.unusedSimpArgs false
set_option linter.unusedVariables false
open Go.RowKit

structure PF (w wx : World) (r : Regs) (C D : Phys) (b : Mach) : Prop where
  bw : Below w.heap.size w wx
  row : Row wx w.heap.size r.cells 28
  oa : Own wx C (.slice none 0 0) fA
  ob : ∃ lw, Own wx D lw b
theorem PF.below {w wx wy : World} {r : Regs} {C D : Phys} {b : Mach} (h : PF w wx r C D b) (hb : Below wx.heap.size wx wy) : PF w wy r C D b := by
  obtain ⟨lw, ho⟩ := h.ob
  exact ⟨h.bw.trans (hb.mono h.bw.size), Below.row hb h.row h.row.lt, h.oa.below hb, lw, ho.below hb⟩
theorem Own.skip {w0 wx wy : World} {C : Phys} {lv : Value} {m0 m : Mach} {k : Nat} (h0 : Own w0 C lv m0) (hk : w0.heap.size ≤ k) (h : Own wx C lv m) (hf : Fr (fun b => b = k) wx wy) : Own wy C lv m := by
  have no := h0.fresh hk
  have ap := h0.apart hk
  exact h.kept hf (fun e => no (Or.inl e.symm)) ap.1 (fun e => no (Or.inr (Or.inl e.symm))) (fun e => no (Or.inr (Or.inr (Or.inl e.symm)))) (fun e => no (Or.inr (Or.inr (Or.inr (Or.inl e.symm))))) ap.2 (fun g hg e => no (Or.inr (Or.inr (Or.inr (Or.inr (e ▸ hg))))))
structure PZ (w wx : World) (r q t : Regs) (Bs Bt : Nat) (C D : Phys) (lw : Value) (b : Mach) (T : TypeId) : Prop where
  bw : Below w.heap.size w wx
  r0 : Row wx w.heap.size r.cells 28
  rs : Row wx Bs q.cells 28
  rt : Row wx Bt t.cells 28
  oa : Own wx C (.slice none 0 0) fA
  ob : Own wx D lw b
  ht : Row wx 0 basesC T
theorem PZ.below {w wx wy : World} {r q t : Regs} {Bs Bt : Nat} {C D : Phys} {lw : Value} {b : Mach} {T : TypeId} (h : PZ w wx r q t Bs Bt C D lw b T) (hb : Below wx.heap.size wx wy) : PZ w wy r q t Bs Bt C D lw b T :=
  ⟨h.bw.trans (hb.mono h.bw.size), Below.row hb h.r0 h.r0.lt, Below.row hb h.rs h.rs.lt, Below.row hb h.rt h.rt.lt, h.oa.below hb, h.ob.below hb, Below.row hb h.ht h.ht.lt⟩
theorem f_load (g h : Nat) (w : World) (hi : ImgAt w (fJ g h)) (p : Int) (p0 : 0 ≤ p) (p1 : p ≤ 40000) (m : Mach) (hm : loadM fI p [] = m) :
    Calls Tryz.prog 35 #[(fJ g h).val, .int .u16 p, .slice none 0 0] w fun e w' => ∃ C : Phys, e = .returned (.tuple #[.pointer (some ⟨C.b, 0, none⟩), .int .i64 0]) ∧ Made w w' C m := by
  have := start_any (fJ g h) (fJ_ok g h) p p0 (by omega) (fJ_fits g h p p1) (.slice none 0 0) [] w hi (fun wx _ => worldNew_nil wx)
  rwa [fJ_load, hm] at this
theorem slAt_new4 (w : World) (a b c d : Int) : SlAt (w.alloc (.cells #[.int .u8 a, .int .u8 b, .int .u8 c, .int .u8 d] 5)) (.int .u8) (some ⟨w.heap.size, 0, none⟩) [a, b, c, d] := by
  intro k hk
  refine ⟨_, rfl, by simp, ?_⟩
  rw [(Row.new w #[.int .u8 a, .int .u8 b, .int .u8 c, .int .u8 d] 5).cell]
  match k, hk with
  | 0, _ => rfl
  | 1, _ => rfl
  | 2, _ => rfl
  | 3, _ => rfl
theorem slAt_new1 (w : World) (a : Int) : SlAt (w.alloc (.cells #[.int .i64 a] 3)) (.int .i64) (some ⟨w.heap.size, 0, none⟩) [a] := by
  intro k hk
  refine ⟨_, rfl, by simp, ?_⟩
  rw [(Row.new w #[.int .i64 a] 3).cell]
  match k, hk with
  | 0, _ => rfl

set_option maxRecDepth 100000 in
set_option maxHeartbeats 3200000 in
theorem pairFinds_any (r : Regs) (hr : r.wf) (kind by_ : Int) (w : World) (T : TypeId) (hT : Row w 0 basesC T) :
    Calls Tryz.prog 13 #[r.val, .int .i64 kind, .int .i64 by_] w fun e w' => e = .returned (.bool true) ∧ Below w.heap.size w w' := by
  obtain ⟨k, hk, hk8⟩ : ∃ k : Nat, kind % 8 = (k : Int) ∧ k < 8 := ⟨(kind % 8).toNat, by omega, by omega⟩
  have m7 : bits .and .i64 kind 7 = (k : Int) := (i64_and7 kind).trans hk
  clear hk
  have s1 := slAt_new4 (w.alloc (.cells r.cells 28)) 1 2 3 4
  have s2 := slAt_new1 ((w.alloc (.cells r.cells 28)).alloc (.cells #[.int .u8 1, .int .u8 2, .int .u8 3, .int .u8 4] 5)) 1
  rw [World.size_alloc] at s1
  rw [World.size_alloc, World.size_alloc] at s2
  have I0 := Lib.hid (show ImgAt (((w.alloc (.cells r.cells 28)).alloc (.cells #[.int .u8 1, .int .u8 2, .int .u8 3, .int .u8 4] 5)).alloc (.cells #[.int .i64 1] 3)) (fJ (w.heap.size + 1) (w.heap.size + 1 + 1)) from ⟨s1.alloc (.cells #[.int .i64 1] 3), s2⟩)
  have HB0 := Lib.hid ((((Below.refl w.heap.size w).alloc (Nat.le_refl _) (.cells r.cells 28)).alloc (by simp) (.cells #[.int .u8 1, .int .u8 2, .int .u8 3, .int .u8 4] 5)).alloc (by simp; omega) (.cells #[.int .i64 1] 3))
  have HR0 := Lib.hid (((Row.new w r.cells 28).alloc (.cells #[.int .u8 1, .int .u8 2, .int .u8 3, .int .u8 4] 5)).alloc (.cells #[.int .i64 1] 3))
  have HT0 := Lib.hid (((hT.alloc (.cells r.cells 28)).alloc (.cells #[.int .u8 1, .int .u8 2, .int .u8 3, .int .u8 4] 5)).alloc (.cells #[.int .i64 1] 3))
  have HSZ := Lib.hid (show (((w.alloc (.cells r.cells 28)).alloc (.cells #[.int .u8 1, .int .u8 2, .int .u8 3, .int .u8 4] 5)).alloc (.cells #[.int .i64 1] 3)).heap.size = w.heap.size + 1 + 1 + 1 by simp)
  have HZ0 := Lib.hid hT.lt
  clear s1 s2 hT
  go_enter Tryz.func13, Tryz.ntmps13
  go_upto_region 2 with fail
  generalize ((w.alloc (.cells r.cells 28)).alloc (.cells #[.int .u8 1, .int .u8 2, .int .u8 3, .int .u8 4] 5)).alloc (.cells #[.int .i64 1] 3) = wa at I0 HB0 HR0 HT0 HSZ ⊢
  have L1 := Lib.hid (show LdIn wa (wa.alloc (.cells #[.slice (some ⟨w.heap.size + 1, 0, none⟩) 4 4, .slice (some ⟨w.heap.size + 1 + 1, 0, none⟩) 1 1, .int .u16 0, .int .u16 0, .int .u16 0, .int .u16 0, .int .i64 0] 78)) (fJ (w.heap.size + 1) (w.heap.size + 1 + 1)) (w.heap.size + 1 + 1 + 1) from ⟨(Below.refl _ _).alloc (Nat.le_refl _) _, by rw [HSZ.out]; exact Nat.le_refl _, Row.new' HSZ.out.symm⟩)
  generalize wa.alloc (.cells #[.slice (some ⟨w.heap.size + 1, 0, none⟩) 4 4, .slice (some ⟨w.heap.size + 1 + 1, 0, none⟩) 1 1, .int .u16 0, .int .u16 0, .int .u16 0, .int .u16 0, .int .i64 0] 78) = wb at L1 ⊢
  have xc : ∀ j, wb.cell? ⟨w.heap.size + 1 + 1 + 1, j, none⟩ = (#[.slice (some ⟨w.heap.size + 1, 0, none⟩) 4 4, .slice (some ⟨w.heap.size + 1 + 1, 0, none⟩) 1 1, .int .u16 0, .int .u16 0, .int .u16 0, .int .u16 0, .int .i64 0] : Array Value)[j]? := L1.out.cell
  go_wp2_with fail
  refine (f_load _ _ _ (I0.out.below L1.out.b) 256 (by decide) (by decide) fA rfl).mono ?_
  rintro e w1 ⟨C, rfl, hm⟩; dsimp only
  have M1 := Lib.hid hm
  have L2 := Lib.hid (L1.out.below hm.bw)
  clear hm xc
  have xc : ∀ j, w1.cell? ⟨w.heap.size + 1 + 1 + 1, j, none⟩ = (#[.slice (some ⟨w.heap.size + 1, 0, none⟩) 4 4, .slice (some ⟨w.heap.size + 1 + 1, 0, none⟩) 1 1, .int .u16 0, .int .u16 0, .int .u16 0, .int .u16 0, .int .i64 0] : Array Value)[j]? := L2.out.cell
  go_wp2_with fail
  refine (f_load _ _ _ (I0.out.below L2.out.b) 384 (by decide) (by decide) fB0 rfl).mono ?_
  rintro e w2 ⟨D, rfl, hm⟩; dsimp only
  have M2 := Lib.hid hm
  have L3 := Lib.hid (L2.out.below hm.bw)
  clear hm xc
  have hP : PF w w2 r C D fB0 := ⟨HB0.out.trans (L3.out.b.mono HB0.out.size), Below.row L3.out.b HR0.out HR0.out.lt, M1.out.o.below M2.out.bw, _, M2.out.o⟩
  have HP := Lib.hid hP
  have HTT := Lib.hid (Below.row L3.out.b HT0.out HT0.out.lt)
  have hC := (show C.b < w1.heap.size ∧ C.mb < w1.heap.size ∧ C.bb < w1.heap.size ∧ C.tb < w1.heap.size ∧ C.wb < w1.heap.size ∧ ∀ g, C.ra = some g → g < w1.heap.size from ⟨M1.out.o.row.lt, M1.out.o.mem.r.lt, M1.out.o.mem.b.lt, M1.out.o.mem.t.lt, M1.out.o.wor.row.lt, fun g hg => Nat.lt_of_lt_of_le (M1.out.o.wor.repB g hg).1 M1.out.o.wor.baseB⟩)
  have HC := Lib.hid hC
  have HGD := Lib.hid (show ∀ k, D.own (.slice none 0 0) k → w.heap.size < k from fun k hk => by
    have h1 := M2.out.own_ge k hk
    have h2 := L2.out.row.lt
    omega)
  clear hP hC L1 L2
  obtain ⟨z1, z2, z3⟩ := f_size
  have KU0 := Lib.hid (unlike_any w2 C D _ _ fA fB0 3 3 128 HP.out.oa M2.out.o (by rw [z1]; exact (z3 7).1.symm) (by rw [z1, z2]; decide) (by rw [show fB0.base = 6144 from (z3 7).2, show fB0.size = 272 from (z3 7).1]; decide))
  rw [f_first] at KU0
  go_wp2_with fail
  refine KU0.out.mono ?_
  rintro e w3 ⟨rfl, hb⟩; dsimp only
  have HP3 := Lib.hid (HP.out.below hb)
  have HT3 := Lib.hid (Below.row hb HTT.out HTT.out.lt)
  have O3 := Lib.hid (M2.out.o.below hb)
  clear hb KU0 HP HTT
  have HSTEP := Lib.hid (show ∀ (w' : World) (b' : Mach), After D (.slice none 0 0) w3 b' w' → PF w w' r C D b' ∧ Row w' 0 basesC T from by
    rintro w' b' ⟨lv', o, f, _⟩
    refine ⟨⟨below_own HP3.out.bw f (fun k hk => Nat.le_of_lt (HGD.out k hk)) HP3.out.bw.size, f.row HP3.out.row (fun e => Nat.lt_irrefl _ (HGD.out _ e)), HP3.out.oa.beside M2.out f HC.out (fun g hg => by cases hg), lv', o⟩, f.row HT3.out (fun e => Nat.not_lt_zero _ (HGD.out _ e))⟩)
  have KO0 := Lib.hid ((out_any w3 (D.wp (.slice none 0 0)) _ _ _ O3.out.wor 1 2).mono (R' := fun e w' => e = .returned (.tuple #[]) ∧ PF w w' r C D (fB 0) ∧ Row w' 0 basesC T) (by
    rintro e w' ⟨rfl, hp⟩
    exact ⟨rfl, HSTEP.out w' _ (O3.out.world hp)⟩))
  have KO1 := Lib.hid ((stuck_any w3 D _ _ O3.out).mono (R' := fun e w' => e = .returned (.tuple #[]) ∧ PF w w' r C D (fB 1) ∧ Row w' 0 basesC T) (by
    rintro e w' ⟨rfl, hp⟩
    exact ⟨rfl, HSTEP.out w' _ hp⟩))
  have hom : ∀ k, ownM D.bb D.tb k → D.own (.slice none 0 0) k := by
    rintro k (e | e)
    · exact Or.inr (Or.inl e)
    · exact Or.inr (Or.inr (Or.inl e))
  have KO2 := Lib.hid ((memSet_any D.mb D.bb D.tb _ _ w3 O3.out.mem 6400 9 (by decide) (by decide)).mono (R' := fun e w' => e = .returned (.tuple #[]) ∧ PF w w' r C D (fB 2) ∧ Row w' 0 basesC T) (by
    rintro e w' ⟨rfl, hm, hf⟩
    exact ⟨rfl, HSTEP.out w' (fB 2) ⟨_, O3.out.setMem hf hm, hf.mono hom, fun k hk => Or.inl hk⟩⟩))
  have KO3 := Lib.hid ((memSetWord_any D.mb D.bb D.tb _ _ w3 O3.out.mem 400 1 (by decide) (by decide) (by decide) (by decide) ⟨7, true⟩ (by decide) (by decide)).mono (R' := fun e w' => e = .returned (.tuple #[]) ∧ PF w w' r C D (fB 3) ∧ Row w' 0 basesC T) (by
    rintro e w' ⟨rfl, hm, hf⟩
    exact ⟨rfl, HSTEP.out w' (fB 3) ⟨_, O3.out.setMem hf hm, hf.mono hom, fun k hk => Or.inl hk⟩⟩))
  clear hom HSTEP
  go_upto_block 0 with fail
  go_cut [12] (fun s12 wx => s12 = .int .i64 (fW k) ∧ PF w wx r C D (fB k) ∧ Row wx 0 basesC T)
  case first => as_aux_lemma =>
    have c27 : w3.cell? ⟨D.b, 27, none⟩ = some (.pointer (some ⟨D.wb, 0, none⟩)) := O3.out.row.cell 27
    have c26 : w3.cell? ⟨D.b, 26, none⟩ = some (.pointer (some ⟨D.mb, 0, none⟩)) := O3.out.row.cell 26
    have hc : k = 0 ∨ k = 1 ∨ k = 2 ∨ k = 3 ∨ k = 4 ∨ k = 5 ∨ k = 6 ∨ k = 7 := by omega
    clear hk8
    rcases hc with rfl | rfl | rfl | rfl | rfl | rfl | rfl | rfl
    · go_wp2_with fail
      refine KO0.out.mono ?_
      clear c26 c27
      rintro e w4 ⟨rfl, hp⟩; dsimp only
      have HQ := Lib.hid hp
      clear hp
      go_wp2_with fail
      go_meet
      exact ⟨rfl, HQ.out⟩
    · go_wp2_with fail
      refine KO1.out.mono ?_
      clear c26 c27
      rintro e w4 ⟨rfl, hp⟩; dsimp only
      have HQ := Lib.hid hp
      clear hp
      go_wp2_with fail
      go_meet
      exact ⟨rfl, HQ.out⟩
    · go_wp2_with fail
      refine KO2.out.mono ?_
      clear c26 c27
      rintro e w4 ⟨rfl, hp⟩; dsimp only
      have HQ := Lib.hid hp
      clear hp
      go_wp2_with fail
      go_meet
      exact ⟨rfl, HQ.out⟩
    · go_wp2_with fail
      refine KO3.out.mono ?_
      clear c26 c27
      rintro e w4 ⟨rfl, hp⟩; dsimp only
      have HQ := Lib.hid hp
      clear hp
      go_wp2_with fail
      go_meet
      exact ⟨rfl, HQ.out⟩
    all_goals
      go_wp2_with fail
      go_meet
      exact ⟨rfl, HP3.out, HT3.out⟩
  case rest =>
  obtain ⟨rfl, hp, ht⟩ := hcut
  have HP4 := Lib.hid hp
  have HT4 := Lib.hid ht
  clear hp ht HP3 HT3 KO0 KO1 KO2 KO3 O3 I0 L3 HB0 HR0 HT0 M1 HC HGD
  obtain ⟨d1, d2, d3, d4⟩ := f_nd k hk8
  obtain ⟨wv, hwv⟩ : ∃ x, fW k = x := ⟨_, rfl⟩
  obtain ⟨nv, hnv⟩ : ∃ x, fN k = x := ⟨_, rfl⟩
  obtain ⟨dv, hdv⟩ : ∃ x, fD k = x := ⟨_, rfl⟩
  rw [hwv] at d1 d2 d3 d4 ⊢
  rw [hnv] at d1 d2
  rw [hdv] at d3 d4
  have HWV := Lib.hid hwv
  have HNV := Lib.hid hnv
  have HDV := Lib.hid hdv
  have D1 := Lib.hid d1
  have D2 := Lib.hid d2
  have D3 := Lib.hid d3
  have D4 := Lib.hid d4
  have HK8 := Lib.hid hk8
  have HZ := Lib.hid z3
  have HZ1 := Lib.hid z1
  have HZ2 := Lib.hid z2
  clear hwv hnv hdv d1 d2 d3 d4 m7 hk8 z1 z2 z3
  go_upto_if 85 with fail
  go_cut [13] (fun s13 wx => wc = wx ∧ s13 = .int .i64 nv)
  case first => as_aux_lemma =>
    by_cases h : wv = 1
    · have hb : (wv == 1) = true := by simp [h]
      have hn := D1.out h
      subst hn
      clear h
      go_wp2_with fail
      go_meet
      exact ⟨rfl, rfl⟩
    · have hb : (wv == 1) = false := by simp [h]
      have hn := D2.out h
      subst hn
      clear h
      go_wp2_with fail
      go_meet
      exact ⟨rfl, rfl⟩
  case rest =>
  obtain ⟨rfl, rfl⟩ := hcut
  go_upto_if 87 with fail
  go_cut [14] (fun s14 wx => wc = wx ∧ s14 = .int .u16 dv)
  case first => as_aux_lemma =>
    by_cases h : wv = 24
    · have hb : (wv == 24) = true := by simp [h]
      have hn := D3.out h
      subst hn
      clear h
      go_wp2_with fail
      go_meet
      exact ⟨rfl, rfl⟩
    · have hb : (wv == 24) = false := by simp [h]
      have hn := D4.out h
      subst hn
      clear h
      go_wp2_with fail
      go_meet
      exact ⟨rfl, rfl⟩
  case rest =>
  obtain ⟨rfl, rfl⟩ := hcut
  have g0 := HP4.out.row.sees.r
  go_upto_region 30 with fail
  have HP5 := Lib.hid (HP4.out.below ((Below.refl wc.heap.size wc).alloc (Nat.le_refl _) (.cells r.cells 28)))
  have HT5 := Lib.hid (HT4.out.alloc (.cells r.cells 28))
  have HR5 := Lib.hid (Row.new wc r.cells 28)
  have HF5 := Lib.hid (show w.heap.size < wc.heap.size from HP4.out.row.lt)
  obtain ⟨lw, hob⟩ := HP4.out.ob
  have OA0 := Lib.hid HP4.out.oa
  have OB0 := Lib.hid hob
  have OA4 := Lib.hid (HP4.out.oa.alloc (.cells r.cells 28))
  have OB4 := Lib.hid (hob.alloc (.cells r.cells 28))
  clear g0 HP4 HT4 hob
  generalize wc.alloc (.cells r.cells 28) = w4 at HP5 HT5 HR5 OA4 OB4 ⊢
  obtain ⟨d, hd⟩ : ∃ d, IntKind.u16.wrap by_ = d := ⟨_, rfl⟩
  have d0 : 0 ≤ d := hd ▸ wrap16_lo _
  have d1 : d ≤ 65535 := hd ▸ wrap16_hi _
  obtain ⟨Bs, hBs⟩ : ∃ B, wc.heap.size = B := ⟨_, rfl⟩
  rw [hBs] at HR5 HF5 ⊢
  have HBS := Lib.hid hBs
  clear hBs
  go_wp2_with fail
  go_loopw [16] (fun s16 wr => ∃ j : Nat, j ≤ 8 ∧ s16 = .int .i64 j ∧ Row wr Bs (shG r d j).cells 28 ∧ Fr (fun b => b = Bs) w4 wr) (fun s16 _ => 8 - (intOf s16).toNat)
  case atStart => exact ⟨0, by omega, rfl, HR5.out, Fr.refl _ _⟩
  case round =>
    obtain ⟨j, hj, rfl, hr1, hf1⟩ := hrel
    have HR := Lib.hid hr1
    have HF := Lib.hid hf1
    clear hr1 hf1
    by_cases hlt : j < 8
    · have c1 : ((j : Nat) : Int) < 8 := by omega
      have hno := Lib.hid (shG_no r d j hlt)
      have hys := Lib.hid (shG_yes r d j hlt)
      have xV : wr.cell? ⟨Bs, j * 2, none⟩ = _ := (HR.out.cell (j * 2)).trans (cellV _ j hlt)
      have xT : wr.cell? ⟨Bs, j * 2 + 1, none⟩ = _ := (HR.out.cell (j * 2 + 1)).trans (cellT _ j hlt)
      have xf := HR.out.frozen (j * 2)
      obtain ⟨V0, hV0⟩ : ∃ V0, (shG r d j).get j = V0 := ⟨_, rfl⟩
      rw [hV0] at hno hys xV xT
      obtain ⟨v, t⟩ := V0
      dsimp only at xV xT hno hys
      clear hV0
      cases t
      · have e := hno.out rfl
        have HR2 := Lib.hid (e ▸ HR.out : Row wr Bs (shG r d (j + 1)).cells 28)
        clear e hno hys
        go_wp2_with fail
        exact ⟨⟨j + 1, by omega, by go_num, HR2.out, HF.out⟩, by simp [intOf]; omega⟩
      · have e := hys.out rfl
        have hw : IntKind.u16.wrap (v + d) = (v + d) % 65536 := by rw [IntKind.wrap_u16]
        have HR2 := Lib.hid (e ▸ HR.out.setCell (j * 2) (.int .u16 ((v + d) % 65536)) : Row (wr.setCell ⟨Bs, j * 2, none⟩ (.int .u16 ((v + d) % 65536))) Bs (shG r d (j + 1)).cells 28)
        have HF2 := Lib.hid (HF.out.setCell (p := ⟨Bs, j * 2, none⟩) rfl (.int .u16 ((v + d) % 65536)))
        clear e hno hys
        go_wp2_with fail
        exact ⟨⟨j + 1, by omega, by go_num, HR2.out, HF2.out⟩, by simp [intOf]; omega⟩
    · obtain rfl : j = 8 := by omega
      have c1 : ¬ ((8 : Nat) : Int) < 8 := by omega
      have HR8 := Lib.hid HR.out
      have HF8 := Lib.hid HF.out
      have HBL := Lib.hid HR5.out.lt
      clear HR HF HR5
      go_wp2_with fail
      go_loopw [17] (fun s17 wr => ∃ j : Nat, j ≤ 4 ∧ s17 = .int .i64 j ∧ Row wr Bs (shS r d j).cells 28 ∧ Fr (fun b => b = Bs) w4 wr) (fun s17 _ => 4 - (intOf s17).toNat)
      case atStart => exact ⟨0, by omega, rfl, HR8.out, HF8.out⟩
      case round =>
        clear HR8 HF8
        obtain ⟨j, hj, rfl, hr1, hf1⟩ := hrel
        have HR := Lib.hid hr1
        have HF := Lib.hid hf1
        clear hr1 hf1
        by_cases hlt : j < 4
        · have c1 : ((j : Nat) : Int) < 4 := by omega
          have hno := Lib.hid (shS_no r d j hlt)
          have hys := Lib.hid (shS_yes r d j hlt)
          have xV : wr.cell? ⟨Bs, 16 + j * 2, none⟩ = _ := (HR.out.cell (16 + j * 2)).trans (segV _ j hlt)
          have xT : wr.cell? ⟨Bs, 16 + j * 2 + 1, none⟩ = _ := (HR.out.cell (16 + j * 2 + 1)).trans (segT _ j hlt)
          have xf := HR.out.frozen (16 + j * 2)
          obtain ⟨V0, hV0⟩ : ∃ V0, (shS r d j).seg j = V0 := ⟨_, rfl⟩
          rw [hV0] at hno hys xV xT
          obtain ⟨v, t⟩ := V0
          dsimp only at xV xT hno hys
          clear hV0
          cases t
          · have e := hno.out rfl
            have HR2 := Lib.hid (e ▸ HR.out : Row wr Bs (shS r d (j + 1)).cells 28)
            clear e hno hys
            go_wp2_with fail
            exact ⟨⟨j + 1, by omega, by go_num, HR2.out, HF.out⟩, by simp [intOf]; omega⟩
          · have e := hys.out rfl
            have hw : IntKind.u16.wrap (v + d) = (v + d) % 65536 := by rw [IntKind.wrap_u16]
            have HR2 := Lib.hid (e ▸ HR.out.setCell (16 + j * 2) (.int .u16 ((v + d) % 65536)) : Row (wr.setCell ⟨Bs, 16 + j * 2, none⟩ (.int .u16 ((v + d) % 65536))) Bs (shS r d (j + 1)).cells 28)
            have HF2 := Lib.hid (HF.out.setCell (p := ⟨Bs, 16 + j * 2, none⟩) rfl (.int .u16 ((v + d) % 65536)))
            clear e hno hys
            go_wp2_with fail
            exact ⟨⟨j + 1, by omega, by go_num, HR2.out, HF2.out⟩, by simp [intOf]; omega⟩
        · obtain rfl : j = 4 := by omega
          have c1 : ¬ ((4 : Nat) : Int) < 4 := by omega
          have ksh := regs_sh r d
          have hip : (shS r d 4).ip = r.ip := rfl
          generalize shS r d 4 = q at HR ksh hip
          have g1 := HR.out.sees.r
          go_upto_region 41 with fail
          have E1 := Lib.hid (Row.new wr q.cells 28)
          have hfb : Fr (fun b => b = Bs) w4 (wr.alloc (.cells q.cells 28)) := HF.out.alloc _
          have HFB := Lib.hid hfb
          have ER := Lib.hid (HR.out.alloc (.cells q.cells 28))
          have HLT := Lib.hid (show w4.heap.size ≤ wr.heap.size from HF.out.size)
          clear hfb g1 HF HR
          generalize wr.alloc (.cells q.cells 28) = w5 at E1 HFB ER ⊢
          obtain ⟨Bt, hBt⟩ : ∃ B, wr.heap.size = B := ⟨_, rfl⟩
          rw [hBt] at E1 HLT ⊢
          clear hBt
          have x1 : w5.cell? ⟨Bt, 24, none⟩ = some (.int .u16 q.ip) := E1.out.cell 24
          have x2 := E1.out.frozen 24
          go_upto_region 42 with fail
          have hb1 : w.heap.size ≠ Bs := by have := HF5.out; omega
          have hb2 : w.heap.size < Bt := by have := HF5.out; have := HBL.out; have := HLT.out; omega
          have hb3 : Bs ≠ Bt := by have := HBL.out; have := HLT.out; omega
          have hz : 0 < w.heap.size := HZ0.out
          have hb4 : 0 ≠ Bs := by have := HF5.out; omega
          have fr6 : Fr (fun b => b = Bt) w5 (w5.setCell ⟨Bt, 24, none⟩ (.int .u16 (IntKind.u16.wrap (r.ip + 1)))) := (Fr.refl (fun b => b = Bt) w5).setCell (p := ⟨Bt, 24, none⟩) rfl _
          have Z := (show PZ w (w5.setCell ⟨Bt, 24, none⟩ (.int .u16 (IntKind.u16.wrap (r.ip + 1)))) r q { q with ip := IntKind.u16.wrap (r.ip + 1) } Bs Bt C D lw (fB k) T from
            ⟨below_own (below_own HP5.out.bw HFB.out (fun k e => by rw [e]; exact Nat.le_of_lt HF5.out) HP5.out.bw.size) fr6 (fun k e => by rw [e]; omega) (Nat.le_trans HP5.out.bw.size HFB.out.size),
             fr6.row (HFB.out.row HP5.out.row hb1) (by omega), fr6.row ER.out hb3, ipP q _ ▸ E1.out.setCell 24 _,
             OA4.out.skip HLT.out (OA0.out.skip (by rw [HBS.out]; exact Nat.le_refl _) OA4.out HFB.out) fr6,
             OB4.out.skip HLT.out (OB0.out.skip (by rw [HBS.out]; exact Nat.le_refl _) OB4.out HFB.out) fr6,
             fr6.row (HFB.out.row HT5.out hb4) (by omega)⟩)
          have Z0 := Lib.hid Z
          clear Z fr6 hb1 hb2 hb3 hb4 hz x1 x2 E1 HFB ER OA4 OB4 OA0 OB0 HP5 HT5
          generalize w5.setCell ⟨Bt, 24, none⟩ (.int .u16 (IntKind.u16.wrap (r.ip + 1))) = w6 at Z0 ⊢
          have KA := Lib.hid (fun wx (h : PZ w wx r q { q with ip := IntKind.u16.wrap (r.ip + 1) } Bs Bt C D lw (fB k) T) => awake47_any wx T h.ht)
          have hzk := HZ.out ⟨k, HK8.out⟩
          have e1 : fA.size = (fB k).size := HZ1.out.trans hzk.1.symm
          have e2 : fA.base + fA.size ≤ 1048576 := by rw [HZ1.out, HZ2.out]; decide
          have e3 : (fB k).base + (fB k).size ≤ 1048576 := by rw [hzk.1, hzk.2]; decide
          have ku := fun wx (h : PZ w wx r q { q with ip := IntKind.u16.wrap (r.ip + 1) } Bs Bt C D lw (fB k) T) => unlike_any wx C D _ lw fA (fB k) 3 nv dv h.oa h.ob e1 e2 e3
          have kb := fun wx (h : PZ w wx r q { q with ip := IntKind.u16.wrap (r.ip + 1) } Bs Bt C D lw (fB k) T) => pbytes_any wx C D _ lw fA (fB k) dv h.oa h.ob e1 e2 e3
          have eu : unlikeV fA (fB k) 3 nv dv = wv := by
            have := f_unlike ⟨k, HK8.out⟩
            rw [← HNV.out, ← HDV.out, ← HWV.out]
            exact this
          have eb : machB fA (fB k) dv = (bits .and .i64 wv 16 == 0) := by
            have := f_bytes ⟨k, HK8.out⟩
            rw [← HDV.out, ← HWV.out]
            exact this
          rw [eu] at ku
          rw [eb] at kb
          have KU := Lib.hid ku
          have KBY := Lib.hid kb
          have KR1 := Lib.hid (fun w => ksh ▸ pregs_any r q d w)
          have hne : (r.ip == IntKind.u16.wrap (r.ip + 1)) = false := by
            rw [IntKind.wrap_u16, beq_eq_false_iff_ne]
            have := hr.ip
            omega
          have KR2 := Lib.hid (fun w => (regs_ip r { q with ip := IntKind.u16.wrap (r.ip + 1) } d hne) ▸ pregs_any r { q with ip := IntKind.u16.wrap (r.ip + 1) } d w)
          generalize ({ q with ip := IntKind.u16.wrap (r.ip + 1) } : Regs) = t at Z0 KA KU KBY KR2
          clear ku kb eu eb hzk e1 e2 e3 ksh hip hne
          go_wp2_with fail
          refine (KA.out _ Z0.out).mono ?_
          rintro e x1 ⟨rfl, hb⟩; dsimp only
          have Z1 := Lib.hid (Z0.out.below hb)
          clear hb
          go_wp2_with fail
          refine (KU.out _ Z1.out).mono ?_
          rintro e x2 ⟨rfl, hb⟩; dsimp only
          have Z2 := Lib.hid (Z1.out.below hb)
          clear hb
          go_wp2_with fail
          refine (KBY.out _ Z2.out).mono ?_
          rintro e x3 ⟨rfl, hb⟩; dsimp only
          have Z3 := Lib.hid (Z2.out.below hb)
          clear hb
          have g0 := Z3.out.r0.sees.r
          have g1 := Z3.out.rs.sees.r
          go_wp2_with fail
          refine (KR1.out _).mono ?_
          rintro e x4 ⟨rfl, hb⟩; dsimp only
          have Z4 := Lib.hid (Z3.out.below hb)
          clear hb g0 g1
          have g0 := Z4.out.r0.sees.r
          have g1 := Z4.out.rt.sees.r
          go_wp2_with fail
          refine (KR2.out _).mono ?_
          rintro e x5 ⟨rfl, hb⟩; dsimp only
          have Z5 := Lib.hid (Z4.out.below hb)
          clear hb g0 g1
          go_wp2_with fail
          go_ret
          first | exact ⟨rfl, Z5.out.bw⟩ | (refine ⟨?_, Z5.out.bw⟩; simp)
end Go.Proofs.YtcglkefaopgjeaaGreatDoor

/- What the condition on hansom/addr.bases says of the first block. -/
namespace Go.Proofs.YtcglkefaopgjeaaGreatDoor
set_option linter.unusedSimpArgs false
set_option linter.unusedVariables false
open Go.ChangeShapes Go.WideShapes Go.ChangeAt Go.RowKit

set_option maxRecDepth 100000 in
theorem ints2 {w : World} {base : Nat} {sp : Nat → Bool} {held : Bool} {m : Nat} {x : DataW Unit × List MemPlace} {c d : Value} {a b : Int} (h : DataW.trod (fun _ => ()) Tryz.prog w base sp held m 68 [c, d] = some x)
    (hx : x.1 = .agg [.lit (.int .i64 a), .lit (.int .i64 b)]) : c = .int .i64 a ∧ d = .int .i64 b := by
  obtain ⟨xs, n, _, ex, _, hl, hel⟩ := DataW.trod_array Tryz.underlying68 h
  have k1 : Tryz.prog.cellsOf 3 = 1 := by kernel_rfl
  have h0 := hel 0 (by decide)
  have h1 := hel 1 (by decide)
  rw [k1] at h0 h1
  match xs, hl with
  | [y0, y1], _ =>
    obtain ⟨z0, e0, d0, _⟩ := DataW.trod_int Tryz.underlying3 h0
    obtain ⟨z1, e1, d1, _⟩ := DataW.trod_int Tryz.underlying3 h1
    rw [ex] at hx
    subst d0 d1
    simp only [List.map_cons, List.map_nil, DataW.agg.injEq, List.cons.injEq, DataW.lit.injEq, Lit.int.injEq, true_and, and_true] at hx
    simp at e0 e1
    rw [e0, e1, hx.1, hx.2]
    exact ⟨rfl, rfl⟩
set_option maxRecDepth 100000 in
theorem bases_row {W : World} (h : laidMetH Tryz.prog [("hansom/addr.bases", Rows.laid_hansom_addr_bases)] W) : ∃ T, Row W 0 basesC T := by
  rw [MakeChecks.laidMetH_plain _ _ _ (by kernel_rfl)] at h
  obtain ⟨ps, ⟨g, t, cs, fuel, p, q, hg, ht, hv, hd, _, rfl⟩, _, hcell⟩ := h
  obtain rfl := Option.some.inj ((show Tryz.prog.globalNamed "hansom/addr.bases" = some 0 by kernel_rfl).symm.trans hg)
  obtain rfl := Option.some.inj ((show (Tryz.prog.globals[0]?).map (·.type) = some 163 by kernel_rfl).symm.trans ht)
  obtain ⟨xs, m, _, ex, hc, hl, hel⟩ := DataW.trod_array Tryz.underlying163 hd
  have k16 : Tryz.prog.cellsOf 163 = 16 := by kernel_rfl
  have k2 : Tryz.prog.cellsOf 68 = 2 := by kernel_rfl
  rw [k16] at hc
  obtain ⟨cl⟩ := cs
  match cl, hc, xs, hl with
  | [c0, c1, c2, c3, c4, c5, c6, c7, c8, c9, c10, c11, c12, c13, c14, c15], _, [y0, y1, y2, y3, y4, y5, y6, y7], _ =>
    rw [k2] at hel
    have ex1 := (Prod.mk.inj ex).1
    unfold Rows.laid_hansom_addr_bases at ex1
    simp only [List.map_cons, List.map_nil, DataW.agg.injEq, List.cons.injEq, and_true] at ex1
    obtain ⟨z0, z1, z2, z3, z4, z5, z6, z7⟩ := ex1
    obtain ⟨rfl, rfl⟩ := ints2 (hel 0 (by decide)) z0.symm
    obtain ⟨rfl, rfl⟩ := ints2 (hel 1 (by decide)) z1.symm
    obtain ⟨rfl, rfl⟩ := ints2 (hel 2 (by decide)) z2.symm
    obtain ⟨rfl, rfl⟩ := ints2 (hel 3 (by decide)) z3.symm
    obtain ⟨rfl, rfl⟩ := ints2 (hel 4 (by decide)) z4.symm
    obtain ⟨rfl, rfl⟩ := ints2 (hel 5 (by decide)) z5.symm
    obtain ⟨rfl, rfl⟩ := ints2 (hel 6 (by decide)) z6.symm
    obtain ⟨rfl, rfl⟩ := ints2 (hel 7 (by decide)) z7.symm
    have hm : MemPlace.cell 0 0 ∈ MemPlace.row ⟨0, 0, none⟩ 16 ++ p ++ q := by
      refine List.mem_append_left _ (List.mem_append_left _ ?_)
      unfold MemPlace.row
      exact List.mem_map.2 ⟨0, by simp, rfl⟩
    obtain ⟨⟨c, T, hheap⟩, _⟩ := hcell 0 0 hm
    unfold World.var? at hv
    rw [hg, Option.bind_some, hheap] at hv
    obtain rfl := Option.some.inj hv
    exact ⟨T, hheap⟩
end Go.Proofs.YtcglkefaopgjeaaGreatDoor
