/- Parts of the proof, in one text: YtcglkefaopgjeaaGreatDoorU0 YtcglkefaopgjeaaGreatDoorU2 YtcglkefaopgjeaaGreatDoorU3 YtcglkefaopgjeaaGreatDoorU6 YtcglkefaopgjeaaGreatDoorU4 YtcglkefaopgjeaaGreatDoorU1 YtcglkefaopgjeaaGreatDoorT3 YtcglkefaopgjeaaGreatDoorS9 YtcglkefaopgjeaaGreatDoorU5 YtcglkefaopgjeaaGreatDoorU7 YtcglkefaopgjeaaGreatDoorPK YtcglkefaopgjeaaGreatDoorPN. Each part's own remark says what it proves; conditions: those of each theorem. -/
import Derived.Test.YtcglkefaopgjeaaGreatDoorR3
import Derived.Test.YtcglkefaopgjeaaGreatDoorV4
import Derived.Test.YtcglkefaopgjeaaGreatDoorV6
import Derived.Test.YtcglkefaopgjeaaGreatDoorJ7
import Derived.Test.YtcglkefaopgjeaaGreatDoorV2
import Derived.Test.YtcglkefaopgjeaaGreatDoorP3
import Derived.Test.YtcglkefaopgjeaaGreatDoorP0

/- Package long: spread, Mul, signed, Div: walks. -/
namespace Go.Proofs.YtcglkefaopgjeaaGreatDoor
set_option linter.unusedSimpArgs false
set_option linter.unusedVariables false
open Go.RowKit

def spreadV (v : Int) (wide : Bool) : Int := if wide then IntKind.i16.wrap v else IntKind.i8.wrap v
theorem spreadV_in (v : Int) (wide : Bool) : -32768 ≤ spreadV v wide ∧ spreadV v wide ≤ 32767 := by
  unfold spreadV
  cases wide
  · rw [if_neg (by decide)]
    simp [IntKind.wrap, IntKind.bits, IntKind.signed]
    split <;> omega
  · rw [if_pos rfl]
    simp [IntKind.wrap, IntKind.bits, IntKind.signed]
    split <;> omega
theorem w32 (n : Int) (h : -2147483648 ≤ n ∧ n ≤ 2147483647) : wrap32 n = n := by unfold wrap32; omega
set_option maxRecDepth 100000 in
theorem lspread_any (v : Int) (wide : Bool) (w : World) :
    Calls Tryz.prog 218 #[.int .u16 v, .bool wide] w fun e w' => e = .returned (.int .i32 (spreadV v wide)) ∧ w = w' := by
  cases wide
  · go_enter Tryz.func218, Tryz.ntmps218
    go_wp2_with fail
    go_ret
    exact ⟨ret_int (w32 _ (by have := spreadV_in v false; unfold spreadV at this; rw [if_neg (by decide)] at this; omega)), rfl⟩
  · go_enter Tryz.func218, Tryz.ntmps218
    go_wp2_with fail
    go_ret
    exact ⟨ret_int (w32 _ (by have := spreadV_in v true; unfold spreadV at this; rw [if_pos rfl] at this; omega)), rfl⟩
/-- A product; its lower and its upper half. -/
def mulP (name a b : Int) (wide : Bool) : Int := if name = 87 then wrap32 (spreadV a wide * spreadV b wide) % 4294967296 else cutW a wide * cutW b wide
def mulLo (p : Int) (wide : Bool) : Int := if wide then p % 65536 else p % 256
def mulHi (p : Int) (wide : Bool) : Int := if wide then p / 65536 else p / 256 % 256
def mulMore (name p : Int) (wide : Bool) : Bool := if name = 87 then mulHi p wide != cutW (IntKind.u16.wrap (spreadV (mulLo p wide) wide / 32768 / 2)) wide else mulHi p wide != 0
theorem lo8 (p : Int) : bits .and .u16 (IntKind.u16.wrap p) 255 = p % 256 := by
  have h := and255 (IntKind.u16.wrap p) (by rw [IntKind.wrap_u16]; omega) (by rw [IntKind.wrap_u16]; omega)
  refine h.trans ?_
  rw [IntKind.wrap_u16]
  omega
theorem ret_mul {a b c d : Int} {x y : Bool} (h : a = b) (k : c = d) (l : x = y) : Ending.returned (.tuple #[.int .u16 a, .int .u16 c, .bool x]) = .returned (.tuple #[.int .u16 b, .int .u16 d, .bool y]) := by rw [h, k, l]

set_option maxRecDepth 100000 in
set_option maxHeartbeats 800000 in
theorem mul86_any (a b : Int) (wide : Bool) (w : World) (a0 : 0 ≤ a) (a1 : a ≤ 65535) (b0 : 0 ≤ b) (b1 : b ≤ 65535) :
    Calls Tryz.prog 210 #[.int .i64 86, .int .u16 a, .int .u16 b, .bool wide] w fun e w' => e = .returned (.tuple #[.int .u16 (mulLo (mulP 86 a b wide) wide), .int .u16 (mulHi (mulP 86 a b wide) wide), .bool (mulMore 86 (mulP 86 a b wide) wide)]) ∧ w = w' := by
  have KA := Lib.hid (fun w => aluCut_any a wide w a0 a1)
  have KB := Lib.hid (fun w => aluCut_any b wide w b0 b1)
  have x0 : 0 ≤ cutW a wide ∧ cutW a wide ≤ 65535 := by unfold cutW; cases wide <;> simp <;> omega
  have y0 : 0 ≤ cutW b wide ∧ cutW b wide ≤ 65535 := by unfold cutW; cases wide <;> simp <;> omega
  have HP := Lib.hid (show mulP 86 a b wide = cutW a wide * cutW b wide from rfl)
  generalize cutW a wide = x at x0 KA HP ⊢
  generalize cutW b wide = y at y0 KB HP ⊢
  rw [HP.out]
  have p0 : 0 ≤ x * y := Int.mul_nonneg x0.1 y0.1
  have p1 : x * y ≤ 65535 * 65535 := Int.mul_le_mul x0.2 y0.2 y0.1 (by decide)
  cases wide
  · go_enter Tryz.func210, Tryz.ntmps210
    go_wp2_with (first | (go_at_call 204; with_reducible refine (KA.out _).mono ?_; rintro e w' ⟨rfl, rfl⟩) | (go_at_call 204; with_reducible refine (KB.out _).mono ?_; rintro e w' ⟨rfl, rfl⟩))
    go_ret3
    exact ⟨ret_mul (lo8 _) (lo8 _) (by rw [lo8]; rfl), rfl⟩
  · go_enter Tryz.func210, Tryz.ntmps210
    go_wp2_with (first | (go_at_call 204; with_reducible refine (KA.out _).mono ?_; rintro e w' ⟨rfl, rfl⟩) | (go_at_call 204; with_reducible refine (KB.out _).mono ?_; rintro e w' ⟨rfl, rfl⟩))
    go_ret3
    exact ⟨ret_mul (IntKind.wrap_u16 _) rfl rfl, rfl⟩

theorem mulLo_wf (p : Int) (wide : Bool) : 0 ≤ mulLo p wide ∧ mulLo p wide ≤ (if wide then 65535 else 255) := by unfold mulLo; cases wide <;> simp <;> omega
theorem mulHi_wf (p : Int) (wide : Bool) (h0 : 0 ≤ p) (h1 : p ≤ 4294967295) : 0 ≤ mulHi p wide ∧ mulHi p wide ≤ (if wide then 65535 else 255) := by unfold mulHi; cases wide <;> simp <;> omega
theorem mulP_wf (name a b : Int) (wide : Bool) (hn : name = 86 ∨ name = 87) (a0 : 0 ≤ a) (a1 : a ≤ 65535) (b0 : 0 ≤ b) (b1 : b ≤ 65535) : 0 ≤ mulP name a b wide ∧ mulP name a b wide ≤ 4294967295 := by
  unfold mulP
  rcases hn with rfl | rfl
  · rw [if_neg (by decide)]
    have x0 : 0 ≤ cutW a wide ∧ cutW a wide ≤ 65535 := by unfold cutW; cases wide <;> simp <;> omega
    have y0 : 0 ≤ cutW b wide ∧ cutW b wide ≤ 65535 := by unfold cutW; cases wide <;> simp <;> omega
    have p0 := Int.mul_nonneg x0.1 y0.1
    have p1 := Int.mul_le_mul x0.2 y0.2 y0.1 (by decide)
    exact ⟨p0, by omega⟩
  · rw [if_pos rfl]
    omega

set_option maxRecDepth 100000 in
set_option maxHeartbeats 800000 in
theorem mul87_any (a b : Int) (wide : Bool) (w : World) (a0 : 0 ≤ a) (a1 : a ≤ 65535) (b0 : 0 ≤ b) (b1 : b ≤ 65535) :
    Calls Tryz.prog 210 #[.int .i64 87, .int .u16 a, .int .u16 b, .bool wide] w fun e w' => e = .returned (.tuple #[.int .u16 (mulLo (mulP 87 a b wide) wide), .int .u16 (mulHi (mulP 87 a b wide) wide), .bool (mulMore 87 (mulP 87 a b wide) wide)]) ∧ w = w' := by
  have KA := Lib.hid (fun w => lspread_any a wide w)
  have KB := Lib.hid (fun w => lspread_any b wide w)
  have HP := Lib.hid (show wrap32 (spreadV a wide * spreadV b wide) % 4294967296 = mulP 87 a b wide from rfl)
  have hp := mulP_wf 87 a b wide (Or.inr rfl) a0 a1 b0 b1
  generalize spreadV a wide = x at KA HP
  generalize spreadV b wide = y at KB HP
  generalize mulP 87 a b wide = p at HP hp ⊢
  cases wide
  · rw [show mulLo p false = p % 256 from rfl, show mulHi p false = p / 256 % 256 from rfl]
    have hs := spreadV_in (p % 256) false
    have KL := Lib.hid (fun w => lspread_any (p % 256) false w)
    have HM := Lib.hid (show (p / 256 % 256 != cutW (IntKind.u16.wrap (spreadV (p % 256) false / 32768 / 2)) false) = mulMore 87 p false from rfl)
    generalize spreadV (p % 256) false = z at KL HM hs
    have KC := Lib.hid (fun w => aluCut_any (IntKind.u16.wrap (z / 32768 / 2)) false w (wrap16_lo _) (wrap16_hi _))
    generalize cutW (IntKind.u16.wrap (z / 32768 / 2)) false = cc at KC HM
    go_enter Tryz.func210, Tryz.ntmps210
    go_upto_region 5 with (first | (go_at_call 218; with_reducible refine (KA.out _).mono ?_; rintro e w' ⟨rfl, rfl⟩) | (go_at_call 218; with_reducible refine (KB.out _).mono ?_; rintro e w' ⟨rfl, rfl⟩))
    rw [HP.out]
    go_upto_region 8 with fail
    rw [lo8, lo8]
    go_wp2_with fail
    refine (KL.out _).mono ?_
    rintro e w' ⟨rfl, rfl⟩; dsimp only
    go_wp2_with fail
    refine (KC.out _).mono ?_
    rintro e w' ⟨rfl, rfl⟩; dsimp only
    go_wp2_with fail
    go_ret3
    exact ⟨ret_mul rfl rfl HM.out, rfl⟩
  · rw [show mulLo p true = p % 65536 from rfl, show mulHi p true = p / 65536 from rfl]
    have hs := spreadV_in (p % 65536) true
    have KL := Lib.hid (fun w => lspread_any (p % 65536) true w)
    have HM := Lib.hid (show (p / 65536 != cutW (IntKind.u16.wrap (spreadV (p % 65536) true / 32768 / 2)) true) = mulMore 87 p true from rfl)
    generalize spreadV (p % 65536) true = z at KL HM hs
    have KC := Lib.hid (fun w => aluCut_any (IntKind.u16.wrap (z / 32768 / 2)) true w (wrap16_lo _) (wrap16_hi _))
    generalize cutW (IntKind.u16.wrap (z / 32768 / 2)) true = cc at KC HM
    go_enter Tryz.func210, Tryz.ntmps210
    go_upto_region 5 with (first | (go_at_call 218; with_reducible refine (KA.out _).mono ?_; rintro e w' ⟨rfl, rfl⟩) | (go_at_call 218; with_reducible refine (KB.out _).mono ?_; rintro e w' ⟨rfl, rfl⟩))
    rw [HP.out]
    go_upto_region 8 with fail
    rw [IntKind.wrap_u16 p]
    go_wp2_with fail
    refine (KL.out _).mono ?_
    rintro e w' ⟨rfl, rfl⟩; dsimp only
    go_wp2_with fail
    refine (KC.out _).mono ?_
    rintro e w' ⟨rfl, rfl⟩; dsimp only
    go_wp2_with fail
    go_ret3
    exact ⟨ret_mul rfl rfl HM.out, rfl⟩
theorem mul_any (name a b : Int) (wide : Bool) (w : World) (hn : name = 86 ∨ name = 87) (a0 : 0 ≤ a) (a1 : a ≤ 65535) (b0 : 0 ≤ b) (b1 : b ≤ 65535) :
    Calls Tryz.prog 210 #[.int .i64 name, .int .u16 a, .int .u16 b, .bool wide] w fun e w' => e = .returned (.tuple #[.int .u16 (mulLo (mulP name a b wide) wide), .int .u16 (mulHi (mulP name a b wide) wide), .bool (mulMore name (mulP name a b wide) wide)]) ∧ w = w' := by
  rcases hn with rfl | rfl
  · exact mul86_any a b wide w a0 a1 b0 b1
  · exact mul87_any a b wide w a0 a1 b0 b1
end Go.Proofs.YtcglkefaopgjeaaGreatDoor

/- Package cpu: multiply: walk. -/
namespace Go.Proofs.YtcglkefaopgjeaaGreatDoor
set_option linter.unusedSimpArgs false
set_option linter.unusedVariables false
open Go.RowKit

/-- A product in its registers, with its flags. -/
def Regs.mulR (r : Regs) (lo hi : Int) (wide : Bool) : Regs := if wide then (r.put 0 ⟨lo, false⟩).put 2 ⟨hi, false⟩ else r.put 0 ⟨lo + 256 * hi, false⟩
def Mach.mulM (m : Mach) (name by_ : Int) (wide : Bool) : Mach :=
  (m.plain m.r.g0).setR (((m.r.mulR (mulLo (mulP name m.r.g0.v by_ wide) wide) (mulHi (mulP name m.r.g0.v by_ wide) wide) wide).withF 1 (mulMore name (mulP name m.r.g0.v by_ wide) wide)).withF 2048 (mulMore name (mulP name m.r.g0.v by_ wide) wide))

set_option maxRecDepth 100000 in
set_option maxHeartbeats 3200000 in
theorem mult_any (w : World) (C : Phys) (lv : Value) (m : Mach) (h : Own w C lv m) (name by_ : Int) (wide : Bool) (hn : name = 86 ∨ name = 87) (b0 : 0 ≤ by_) (b1 : by_ ≤ 65535) :
    Calls Tryz.prog 187 #[.pointer (some ⟨C.b, 0, none⟩), .int .i64 name, .int .u16 by_, .bool wide] w fun e w' => e = .returned (.tuple #[]) ∧ After C lv w (m.mulM name by_ wide) w' := by
  have KM := Lib.hid (fun w => mul_any name m.r.g0.v by_ wide w hn h.wf.r.g0.1 h.wf.r.g0.2 b0 b1)
  have hP := mulP_wf name m.r.g0.v by_ wide hn h.wf.r.g0.1 h.wf.r.g0.2 b0 b1
  have HD := Lib.hid (show m.mulM name by_ wide = (m.plain m.r.g0).setR (((m.r.mulR (mulLo (mulP name m.r.g0.v by_ wide) wide) (mulHi (mulP name m.r.g0.v by_ wide) wide) wide).withF 1 (mulMore name (mulP name m.r.g0.v by_ wide) wide)).withF 2048 (mulMore name (mulP name m.r.g0.v by_ wide) wide)) from rfl)
  generalize mulP name m.r.g0.v by_ wide = P at KM HD hP
  have hlo := mulLo_wf P wide
  have hhi := mulHi_wf P wide hP.1 hP.2
  have HWL := Lib.hid (show V.wf ⟨mulLo P wide, false⟩ from ⟨hlo.1, Int.le_trans hlo.2 (by cases wide <;> decide)⟩)
  have HWH := Lib.hid (show V.wf ⟨mulHi P wide, false⟩ from ⟨hhi.1, Int.le_trans hhi.2 (by cases wide <;> decide)⟩)
  generalize mulLo P wide = lo at KM HD HWL hlo
  generalize mulHi P wide = hi at KM HD HWH hhi
  generalize mulMore name P wide = more at KM HD
  have HWF := Lib.hid h.wf.r
  have HO0 := Lib.hid h; have HA0 := Lib.hid (Acc.refl C lv w); have sc := HO0.out.sees.c; have sf := HO0.out.sees.f; have sr := HO0.out.sees.r; have ss := HO0.out.sees.s; have sl := HO0.out.sees.l; clear h
  go_enter Tryz.func187, Tryz.ntmps187
  go_wp2_with fail
  refine (get_any m.r 0 _).mono ?_
  rw [show m.r.get 0 = m.r.g0 from rfl]
  rintro e w1 ⟨rfl, hb⟩; dsimp only
  have HO1 := Lib.hid (HO0.out.below hb)
  have HA1 := Lib.hid (HA0.out.below hb)
  clear sc sf sr ss sl; clear hb
  go_wp2_with fail
  refine (plain_any _ _ _ _ HO1.out m.r.g0).mono ?_
  have HR := Lib.hid (plain_r m m.r.g0)
  generalize m.plain m.r.g0 = m2 at HD HR
  rintro e w2 ⟨rfl, lv2, h2, f2, k2⟩; dsimp only
  have HO2 := Lib.hid h2
  have HA2 := Lib.hid (HA1.out.trans ⟨f2, k2⟩)
  clear h2 f2 k2
  go_wp2_with fail
  refine (KM.out _).mono ?_
  rintro e w' ⟨rfl, rfl⟩; dsimp only
  obtain ⟨r, hr⟩ : ∃ r, m.r = r := ⟨_, rfl⟩
  rw [hr] at HR HD HWF
  clear hr KM
  cases wide with
  | true =>
    have w3 := Regs.put_wf HWF.out 0 HWL.out
    have w4 := Regs.put_wf w3 2 HWH.out
    have KP := Lib.hid (fun w => put_any r 0 ⟨lo, false⟩ w)
    have HE := Lib.hid (show m.mulM name by_ true = m2.setR ((((r.put 0 ⟨lo, false⟩).put 2 ⟨hi, false⟩).withF 1 more).withF 2048 more) from HD.out)
    clear HD
    generalize r.put 0 ⟨lo, false⟩ = r3 at w3 w4 KP HE
    have KQ := Lib.hid (fun w => put_any r3 2 ⟨hi, false⟩ w)
    generalize r3.put 2 ⟨hi, false⟩ = r4 at w4 KQ HE
    have W3 := Lib.hid w3
    have W4 := Lib.hid w4
    clear w3 w4
    have sc := HO2.out.sees.c; have sf := HO2.out.sees.f; have sr := HO2.out.sees.r; have ss := HO2.out.sees.s; have sl := HO2.out.sees.l
    rw [HR.out] at sr
    go_wp2_with fail
    refine (KP.out _).mono ?_
    rintro e w3 ⟨rfl, hb⟩; dsimp only
    have HO3 := Lib.hid (HO2.out.below hb)
    have HA3 := Lib.hid (HA2.out.below hb)
    clear sc sf sr ss sl; clear hb
    have sc := HO3.out.sees.c; have sf := HO3.out.sees.f; have sr := HO3.out.sees.r; have ss := HO3.out.sees.s; have sl := HO3.out.sees.l
    go_upto_region 4 with fail
    have HO4 := Lib.hid (HO3.out.putR r3 W3.out)
    have HA4 := Lib.hid (HA3.out.putR r3)
    clear sc sf sr ss sl
    generalize putR w3 C.b r3 = w4 at HO4 HA4 ⊢
    have sc := HO4.out.sees.c; have sf := HO4.out.sees.f; have sr := HO4.out.sees.r; have ss := HO4.out.sees.s; have sl := HO4.out.sees.l
    replace sr : regsIn w4 C.b = some r3.val := sr
    go_wp2_with fail
    refine (KQ.out _).mono ?_
    rintro e w5 ⟨rfl, hb⟩; dsimp only
    have HO5 := Lib.hid (HO4.out.below hb)
    have HA5 := Lib.hid (HA4.out.below hb)
    clear sc sf sr ss sl; clear hb
    have sc := HO5.out.sees.c; have sf := HO5.out.sees.f; have sr := HO5.out.sees.r; have ss := HO5.out.sees.s; have sl := HO5.out.sees.l
    go_upto_region 6 with fail
    have HO6 := Lib.hid (HO5.out.putR r4 W4.out)
    have HA6 := Lib.hid (HA5.out.putR r4)
    clear sc sf sr ss sl
    generalize putR w5 C.b r4 = w6 at HO6 HA6 ⊢
    have sc := HO6.out.sees.c; have sf := HO6.out.sees.f; have sr := HO6.out.sees.r; have ss := HO6.out.sees.s; have sl := HO6.out.sees.l
    replace sr : regsIn w6 C.b = some r4.val := sr
    have KV := Lib.hid (fun w => with_any r4 1 more w)
    have w5f := withF_wf W4.out 1 more
    generalize r4.withF 1 more = r5 at KV HE w5f
    have KW := Lib.hid (fun w => with_any r5 2048 more w)
    have w6f := withF_wf w5f 2048 more
    generalize r5.withF 2048 more = r6 at KW HE w6f
    have W6 := Lib.hid w6f
    clear w5f w6f
    go_wp2_with fail
    refine (KV.out _).mono ?_
    rintro e w7 ⟨rfl, hb⟩; dsimp only
    have HO7 := Lib.hid (HO6.out.below hb)
    have HA7 := Lib.hid (HA6.out.below hb)
    clear sc sf sr ss sl; clear hb
    go_wp2_with fail
    refine (KW.out _).mono ?_
    rintro e w8 ⟨rfl, hb⟩; dsimp only
    have HO8 := Lib.hid (HO7.out.below hb)
    have HA8 := Lib.hid (HA7.out.below hb)
    clear hb
    have sc := HO8.out.sees.c; have sf := HO8.out.sees.f; have sr := HO8.out.sees.r; have ss := HO8.out.sees.s; have sl := HO8.out.sees.l
    go_wp2_with fail
    (first | go_end0 | (((try simp only [Exit.inBlock, Exit.then]); refine bodyPost_ret (results_none rfl _ _ _) rfl ?_)))
    rw [HE.out]
    exact ⟨rfl, After.mk (HO8.out.putR _ W6.out) (HA8.out.putR _)⟩
  | false =>
    have HWX := Lib.hid (show V.wf ⟨lo + 256 * hi, false⟩ from ⟨by dsimp only; omega, by dsimp only; simp at hlo hhi; omega⟩)
    have w4 := Regs.put_wf HWF.out 0 HWX.out
    have hhi2 : hi ≤ 255 := by have := hhi.2; simpa using this
    have eor : bits .or .u16 lo (IntKind.u16.wrap (hi * 256)) = lo + 256 * hi := by rw [show IntKind.u16.wrap (hi * 256) = hi * 256 by rw [IntKind.wrap_u16]; have := hhi.1; omega]; exact word_bits lo hi hlo.1 hlo.2 hhi.1 hhi2
    clear hhi2 hhi hlo
    have KQ := Lib.hid (fun w => put_any r 0 ⟨lo + 256 * hi, false⟩ w)
    have HE := Lib.hid (show m.mulM name by_ false = m2.setR (((r.put 0 ⟨lo + 256 * hi, false⟩).withF 1 more).withF 2048 more) from HD.out)
    clear HD
    generalize r.put 0 ⟨lo + 256 * hi, false⟩ = r4 at w4 KQ HE
    have W4 := Lib.hid w4
    clear w4
    have sc := HO2.out.sees.c; have sf := HO2.out.sees.f; have sr := HO2.out.sees.r; have ss := HO2.out.sees.s; have sl := HO2.out.sees.l
    rw [HR.out] at sr
    go_wp2_with fail
    refine (KQ.out _).mono ?_
    rintro e w5 ⟨rfl, hb⟩; dsimp only
    have HO5 := Lib.hid (HO2.out.below hb)
    have HA5 := Lib.hid (HA2.out.below hb)
    clear sc sf sr ss sl; clear hb
    have sc := HO5.out.sees.c; have sf := HO5.out.sees.f; have sr := HO5.out.sees.r; have ss := HO5.out.sees.s; have sl := HO5.out.sees.l
    go_upto_region 6 with fail
    have HO6 := Lib.hid (HO5.out.putR r4 W4.out)
    have HA6 := Lib.hid (HA5.out.putR r4)
    clear sc sf sr ss sl
    generalize putR w5 C.b r4 = w6 at HO6 HA6 ⊢
    have sc := HO6.out.sees.c; have sf := HO6.out.sees.f; have sr := HO6.out.sees.r; have ss := HO6.out.sees.s; have sl := HO6.out.sees.l
    replace sr : regsIn w6 C.b = some r4.val := sr
    have KV := Lib.hid (fun w => with_any r4 1 more w)
    have w5f := withF_wf W4.out 1 more
    generalize r4.withF 1 more = r5 at KV HE w5f
    have KW := Lib.hid (fun w => with_any r5 2048 more w)
    have w6f := withF_wf w5f 2048 more
    generalize r5.withF 2048 more = r6 at KW HE w6f
    have W6 := Lib.hid w6f
    clear w5f w6f
    go_wp2_with fail
    refine (KV.out _).mono ?_
    rintro e w7 ⟨rfl, hb⟩; dsimp only
    have HO7 := Lib.hid (HO6.out.below hb)
    have HA7 := Lib.hid (HA6.out.below hb)
    clear sc sf sr ss sl; clear hb
    go_wp2_with fail
    refine (KW.out _).mono ?_
    rintro e w8 ⟨rfl, hb⟩; dsimp only
    have HO8 := Lib.hid (HO7.out.below hb)
    have HA8 := Lib.hid (HA7.out.below hb)
    clear hb
    have sc := HO8.out.sees.c; have sf := HO8.out.sees.f; have sr := HO8.out.sees.r; have ss := HO8.out.sees.s; have sl := HO8.out.sees.l
    go_wp2_with fail
    (first | go_end0 | (((try simp only [Exit.inBlock, Exit.then]); refine bodyPost_ret (results_none rfl _ _ _) rfl ?_)))
    rw [HE.out]
    exact ⟨rfl, After.mk (HO8.out.putR _ W6.out) (HA8.out.putR _)⟩
end Go.Proofs.YtcglkefaopgjeaaGreatDoor

/- Package long: signed, Div; package cpu: divide: walks. -/
namespace Go.Proofs.YtcglkefaopgjeaaGreatDoor
set_option linter.unusedSimpArgs false
set_option linter.unusedVariables false
open Go.RowKit

def divN (low high : Int) (wide : Bool) : Int := if wide then high * 65536 + low else high % 256 * 256 + low % 256
def signedA (n : Int) (wide : Bool) : Int := if wide then wrap32 n else IntKind.i16.wrap n
def signedV (n y : Int) (wide : Bool) : Int × Int × Bool :=
  let q := (signedA n wide).tdiv (spreadV y wide)
  let r := (signedA n wide).tmod (spreadV y wide)
  let most : Int := if wide then 32767 else 127
  if most < q ∨ q < -most then (0, 0, false) else (cutW (IntKind.u16.wrap q) wide, cutW (IntKind.u16.wrap r) wide, true)
def divV (name low high by_ : Int) (wide : Bool) : Int × Int × Bool :=
  if cutW by_ wide = 0 then (0, 0, false)
  else if name = 89 then signedV (divN low high wide) (cutW by_ wide) wide
  else if cutW 65535 wide < divN low high wide / cutW by_ wide then (0, 0, false)
  else (divN low high wide / cutW by_ wide, divN low high wide % cutW by_ wide, true)
theorem signedA_in (n : Int) (wide : Bool) : -2147483648 ≤ signedA n wide ∧ signedA n wide ≤ 2147483647 := by
  unfold signedA
  cases wide
  · rw [if_neg (by decide)]
    simp [IntKind.wrap, IntKind.bits, IntKind.signed]
    split <;> omega
  · rw [if_pos rfl]
    unfold wrap32
    omega
theorem spreadV_ne (y : Int) (wide : Bool) (h0 : 0 < y) (h1 : y ≤ (if wide then 65535 else 255)) : spreadV y wide ≠ 0 := by
  unfold spreadV
  cases wide
  · rw [if_neg (by decide)]
    simp at h1
    simp [IntKind.wrap, IntKind.bits, IntKind.signed]
    split <;> omega
  · rw [if_pos rfl]
    simp at h1
    simp [IntKind.wrap, IntKind.bits, IntKind.signed]
    split <;> omega
theorem tdiv_in (a b : Int) (h : -2147483648 ≤ a ∧ a ≤ 2147483647) : -2147483648 ≤ a.tdiv b ∧ a.tdiv b ≤ 2147483648 := by
  have h1 : (a.tdiv b).natAbs ≤ a.natAbs := by rw [Int.natAbs_tdiv]; exact Nat.div_le_self _ _
  omega
theorem tmod_in (a b : Int) (h : -2147483648 ≤ a ∧ a ≤ 2147483647) : -2147483648 ≤ a.tmod b ∧ a.tmod b ≤ 2147483648 := by
  have h1 : (a.tmod b).natAbs ≤ a.natAbs := by rw [Int.natAbs_tmod]; exact Nat.mod_le _ _
  omega
set_option maxRecDepth 100000 in
set_option maxHeartbeats 800000 in
theorem signed_any (n y : Int) (wide : Bool) (w : World) (y0 : 0 < y) (y1 : y ≤ (if wide then 65535 else 255)) :
    Calls Tryz.prog 219 #[.int .u32 n, .int .u16 y, .bool wide] w fun e w' => e = .returned (.tuple #[.int .u16 (signedV n y wide).1, .int .u16 (signedV n y wide).2.1, .bool (signedV n y wide).2.2]) ∧ Below w.heap.size w w' := by
  have KS := Lib.hid (fun w => lspread_any y wide w)
  have hb := spreadV_ne y wide y0 y1
  have hbi := spreadV_in y wide
  have hai := signedA_in n wide
  have HV := Lib.hid (show signedV n y wide = if (if wide then (32767 : Int) else 127) < (signedA n wide).tdiv (spreadV y wide) ∨ (signedA n wide).tdiv (spreadV y wide) < -(if wide then (32767 : Int) else 127) then (0, 0, false) else (cutW (IntKind.u16.wrap ((signedA n wide).tdiv (spreadV y wide))) wide, cutW (IntKind.u16.wrap ((signedA n wide).tmod (spreadV y wide))) wide, true) from rfl)
  generalize spreadV y wide = b at KS hb hbi HV
  generalize signedV n y wide = V at HV ⊢
  have hb0 : (b == 0) = false := by simpa using hb
  cases wide
  · obtain ⟨a, ha⟩ : ∃ a, signedA n false = a := ⟨_, rfl⟩
    rw [ha] at HV hai
    have hq := tdiv_in a b hai
    have hr := tmod_in a b hai
    have HA := Lib.hid (show IntKind.i16.wrap n = a from ha)
    have wa : wrap64 a = a := by unfold wrap64; omega
    have wq : wrap64 (a.tdiv b) = a.tdiv b := by unfold wrap64; omega
    have KQ := Lib.hid (fun w => aluCut_any (IntKind.u16.wrap (a.tdiv b)) false w (wrap16_lo _) (wrap16_hi _))
    have KR := Lib.hid (fun w => aluCut_any (IntKind.u16.wrap (a.tmod b)) false w (wrap16_lo _) (wrap16_hi _))
    have HV2 := Lib.hid (show V = if 127 < a.tdiv b ∨ a.tdiv b < -127 then (0, 0, false) else (cutW (IntKind.u16.wrap (a.tdiv b)) false, cutW (IntKind.u16.wrap (a.tmod b)) false, true) from HV.out)
    clear HV ha
    generalize cutW (IntKind.u16.wrap (a.tdiv b)) false = cq at KQ HV2
    generalize cutW (IntKind.u16.wrap (a.tmod b)) false = cr at KR HV2
    go_enter Tryz.func219, Tryz.ntmps219
    go_upto_region 4 with fail
    rw [HA.out, wa]
    go_wp2_with fail
    refine (KS.out _).mono ?_
    rintro e w' ⟨rfl, rfl⟩; dsimp only
    go_upto_region 5 with fail
    go_region
    all_goals
      generalize a.tdiv b = q at hq KQ HV2 wq ⊢
      generalize a.tmod b = r at hr KR HV2 ⊢
      by_cases h1 : 127 < q
      · have HW := Lib.hid (show V = (0, 0, false) by rw [HV2.out, if_pos (Or.inl h1)])
        clear HV2
        go_wp2_with fail
        go_ret3
        rw [HW.out]
        exact ⟨rfl, (Below.refl _ _).drew⟩
      · by_cases h2 : q < -127
        · have HW := Lib.hid (show V = (0, 0, false) by rw [HV2.out, if_pos (Or.inr h2)])
          clear HV2
          go_wp2_with fail
          go_ret3
          rw [HW.out]
          exact ⟨rfl, (Below.refl _ _).drew⟩
        · have HW := Lib.hid (show V = (cq, cr, true) by rw [HV2.out, if_neg (fun e => e.elim h1 h2)])
          clear HV2
          go_wp2_with (first | (go_at_call 204; with_reducible refine (KQ.out _).mono ?_; rintro e w' ⟨rfl, rfl⟩) | (go_at_call 204; with_reducible refine (KR.out _).mono ?_; rintro e w' ⟨rfl, rfl⟩))
          go_ret3
          rw [HW.out]
          exact ⟨rfl, (Below.refl _ _).drew⟩
  · obtain ⟨a, ha⟩ : ∃ a, signedA n true = a := ⟨_, rfl⟩
    rw [ha] at HV hai
    have hq := tdiv_in a b hai
    have hr := tmod_in a b hai
    have HA := Lib.hid (show wrap32 n = a from ha)
    have wa : wrap64 a = a := by unfold wrap64; omega
    have wq : wrap64 (a.tdiv b) = a.tdiv b := by unfold wrap64; omega
    have KQ := Lib.hid (fun w => aluCut_any (IntKind.u16.wrap (a.tdiv b)) true w (wrap16_lo _) (wrap16_hi _))
    have KR := Lib.hid (fun w => aluCut_any (IntKind.u16.wrap (a.tmod b)) true w (wrap16_lo _) (wrap16_hi _))
    have HV2 := Lib.hid (show V = if 32767 < a.tdiv b ∨ a.tdiv b < -32767 then (0, 0, false) else (cutW (IntKind.u16.wrap (a.tdiv b)) true, cutW (IntKind.u16.wrap (a.tmod b)) true, true) from HV.out)
    clear HV ha
    generalize cutW (IntKind.u16.wrap (a.tdiv b)) true = cq at KQ HV2
    generalize cutW (IntKind.u16.wrap (a.tmod b)) true = cr at KR HV2
    go_enter Tryz.func219, Tryz.ntmps219
    go_upto_region 4 with fail
    rw [HA.out, wa]
    go_wp2_with fail
    refine (KS.out _).mono ?_
    rintro e w' ⟨rfl, rfl⟩; dsimp only
    go_upto_region 5 with fail
    go_region
    all_goals
      generalize a.tdiv b = q at hq KQ HV2 wq ⊢
      generalize a.tmod b = r at hr KR HV2 ⊢
      by_cases h1 : 32767 < q
      · have HW := Lib.hid (show V = (0, 0, false) by rw [HV2.out, if_pos (Or.inl h1)])
        clear HV2
        go_wp2_with fail
        go_ret3
        rw [HW.out]
        exact ⟨rfl, (Below.refl _ _).drew⟩
      · by_cases h2 : q < -32767
        · have HW := Lib.hid (show V = (0, 0, false) by rw [HV2.out, if_pos (Or.inr h2)])
          clear HV2
          go_wp2_with fail
          go_ret3
          rw [HW.out]
          exact ⟨rfl, (Below.refl _ _).drew⟩
        · have HW := Lib.hid (show V = (cq, cr, true) by rw [HV2.out, if_neg (fun e => e.elim h1 h2)])
          clear HV2
          go_wp2_with (first | (go_at_call 204; with_reducible refine (KQ.out _).mono ?_; rintro e w' ⟨rfl, rfl⟩) | (go_at_call 204; with_reducible refine (KR.out _).mono ?_; rintro e w' ⟨rfl, rfl⟩))
          go_ret3
          rw [HW.out]
          exact ⟨rfl, (Below.refl _ _).drew⟩
theorem or32_16 (x y : Int) (h1 : 0 ≤ x) (h2 : x ≤ 65535) (h3 : 0 ≤ y) (h4 : y ≤ 65535) : bits .or .u32 (x * 65536) y = x * 65536 + y := by
  rw [u32_or _ _ (by omega) (by omega) (by omega) (by omega), nat_join 16 (x * 65536).toNat y.toNat (by omega) (by omega)]
  omega
theorem or32_8 (x y : Int) (h1 : 0 ≤ x) (h2 : x ≤ 255) (h3 : 0 ≤ y) (h4 : y ≤ 255) : bits .or .u32 (x * 256) y = x * 256 + y := by
  rw [u32_or _ _ (by omega) (by omega) (by omega) (by omega), nat_join 8 (x * 256).toNat y.toNat (by omega) (by omega)]
  omega
set_option maxRecDepth 100000 in
set_option maxHeartbeats 1600000 in
theorem div_any (name low high b : Int) (wide : Bool) (w : World) (hn : name = 88 ∨ name = 89) (l0 : 0 ≤ low) (l1 : low ≤ 65535) (h0 : 0 ≤ high) (h1 : high ≤ 65535) (b0 : 0 ≤ b) (b1 : b ≤ 65535) :
    Calls Tryz.prog 211 #[.int .i64 name, .int .u16 low, .int .u16 high, .int .u16 b, .bool wide] w fun e w' => e = .returned (.tuple #[.int .u16 (divV name low high b wide).1, .int .u16 (divV name low high b wide).2.1, .bool (divV name low high b wide).2.2]) ∧ Below w.heap.size w w' := by
  have KB := Lib.hid (fun w => aluCut_any b wide w b0 b1)
  have KM := Lib.hid (fun w => aluCut_any 65535 wide w (by decide) (by decide))
  have hy : 0 ≤ cutW b wide ∧ cutW b wide ≤ (if wide then 65535 else 255) := by unfold cutW; cases wide <;> simp <;> omega
  have hm : 0 ≤ cutW 65535 wide ∧ cutW 65535 wide ≤ 65535 := by unfold cutW; cases wide <;> simp
  have HV := Lib.hid (show divV name low high b wide = if cutW b wide = 0 then (0, 0, false) else if name = 89 then signedV (divN low high wide) (cutW b wide) wide else if cutW 65535 wide < divN low high wide / cutW b wide then (0, 0, false) else (divN low high wide / cutW b wide, divN low high wide % cutW b wide, true) from rfl)
  have hnn : 0 ≤ divN low high wide ∧ divN low high wide ≤ 4294967295 := by unfold divN; cases wide <;> simp <;> omega
  obtain ⟨n, hnd⟩ : ∃ n, divN low high wide = n := ⟨_, rfl⟩
  rw [hnd] at HV hnn
  generalize divV name low high b wide = V at HV ⊢
  generalize cutW b wide = y at KB hy HV
  generalize cutW 65535 wide = cm at KM hm HV
  have hd := Lib.hid hnd
  clear hnd
  have ks : y ≠ 0 → ∀ w, Calls Tryz.prog 219 #[.int .u32 n, .int .u16 y, .bool wide] w fun e w' => e = .returned (.tuple #[.int .u16 (signedV n y wide).1, .int .u16 (signedV n y wide).2.1, .bool (signedV n y wide).2.2]) ∧ Below w.heap.size w w' := fun hz w => signed_any n y wide w (by omega) hy.2
  have KS := Lib.hid ks
  clear ks
  have hy2 : y ≤ 65535 := by cases wide <;> simp at hy <;> omega
  have hy1 := hy.1
  clear hy
  have e1 := or32_16 high low h0 h1 l0 l1
  have e2 := or32_8 (high % 256) (low % 256) (by omega) (by omega) (by omega) (by omega)
  have e3 := and255 high h0 h1
  have e4 := and255 low l0 l1
  cases wide
  · have HN := Lib.hid (show high % 256 * 256 + low % 256 = n from hd.out)
    clear hd
    go_enter Tryz.func211, Tryz.ntmps211
    go_upto_region 5 with (go_at_call 204; with_reducible refine (KB.out _).mono ?_; rintro e w' ⟨rfl, rfl⟩)
    rw [HN.out]
    by_cases hz : y = 0
    · have HW := Lib.hid (show V = (0, 0, false) by rw [HV.out, if_pos hz])
      have hzb : (y == 0) = true := by simp [hz]
      clear HV hz
      go_wp2_with fail
      go_ret3
      rw [HW.out]
      exact ⟨rfl, Below.refl _ _⟩
    · have hzb : (y == 0) = false := by simp [hz]
      rcases hn with rfl | rfl
      · have HV2 := Lib.hid (show V = if cm < n / y then (0, 0, false) else (n / y, n % y, true) by rw [HV.out, if_neg hz, if_neg (by decide)])
        have q0 : n.tdiv y = n / y := Int.tdiv_eq_ediv_of_nonneg hnn.1
        have q1 : n.tmod y = n % y := Int.tmod_eq_emod_of_nonneg hnn.1
        have r0 : 0 ≤ n % y ∧ n % y ≤ 65535 := ⟨Int.emod_nonneg n hz, by have := Int.emod_lt_of_pos n (show 0 < y by omega); omega⟩
        have s0 : 0 ≤ n / y ∧ n / y ≤ 4294967295 := ⟨Int.ediv_nonneg hnn.1 hy1, Int.le_trans (Int.ediv_le_self y hnn.1) hnn.2⟩
        clear HV KS
        go_upto_region 9 with fail
        go_region
        all_goals
          generalize n / y = q at s0 HV2 ⊢
          generalize n % y = r at r0 HV2 ⊢
          go_wp2_with fail
          refine (KM.out _).mono ?_
          rintro e w' ⟨rfl, rfl⟩; dsimp only
          by_cases h2 : cm < q
          · have HW := Lib.hid (show V = (0, 0, false) by rw [HV2.out, if_pos h2])
            clear HV2
            go_wp2_with fail
            go_ret3
            rw [HW.out]
            exact ⟨rfl, (Below.refl _ _).drew⟩
          · have HW := Lib.hid (show V = (q, r, true) by rw [HV2.out, if_neg h2])
            clear HV2
            go_wp2_with fail
            go_ret3
            rw [HW.out]
            exact ⟨rfl, (Below.refl _ _).drew⟩
      · have HW := Lib.hid (show V = signedV n y false by rw [HV.out, if_neg hz, if_pos rfl])
        have KS2 := Lib.hid (KS.out hz)
        clear HV KS hz
        go_wp2_with fail
        refine (KS2.out _).mono ?_
        rw [← HW.out]
        clear HW KS2
        obtain ⟨v1, v2, v3⟩ := V
        rintro e w1 ⟨rfl, hb⟩; dsimp only
        go_wp2_with fail
        go_ret3
        exact ⟨rfl, hb⟩
  · have HN := Lib.hid (show high * 65536 + low = n from hd.out)
    clear hd
    go_enter Tryz.func211, Tryz.ntmps211
    go_upto_region 5 with (go_at_call 204; with_reducible refine (KB.out _).mono ?_; rintro e w' ⟨rfl, rfl⟩)
    rw [HN.out]
    by_cases hz : y = 0
    · have HW := Lib.hid (show V = (0, 0, false) by rw [HV.out, if_pos hz])
      have hzb : (y == 0) = true := by simp [hz]
      clear HV hz
      go_wp2_with fail
      go_ret3
      rw [HW.out]
      exact ⟨rfl, Below.refl _ _⟩
    · have hzb : (y == 0) = false := by simp [hz]
      rcases hn with rfl | rfl
      · have HV2 := Lib.hid (show V = if cm < n / y then (0, 0, false) else (n / y, n % y, true) by rw [HV.out, if_neg hz, if_neg (by decide)])
        have q0 : n.tdiv y = n / y := Int.tdiv_eq_ediv_of_nonneg hnn.1
        have q1 : n.tmod y = n % y := Int.tmod_eq_emod_of_nonneg hnn.1
        have r0 : 0 ≤ n % y ∧ n % y ≤ 65535 := ⟨Int.emod_nonneg n hz, by have := Int.emod_lt_of_pos n (show 0 < y by omega); omega⟩
        have s0 : 0 ≤ n / y ∧ n / y ≤ 4294967295 := ⟨Int.ediv_nonneg hnn.1 hy1, Int.le_trans (Int.ediv_le_self y hnn.1) hnn.2⟩
        clear HV KS
        go_upto_region 9 with fail
        go_region
        all_goals
          generalize n / y = q at s0 HV2 ⊢
          generalize n % y = r at r0 HV2 ⊢
          go_wp2_with fail
          refine (KM.out _).mono ?_
          rintro e w' ⟨rfl, rfl⟩; dsimp only
          by_cases h2 : cm < q
          · have HW := Lib.hid (show V = (0, 0, false) by rw [HV2.out, if_pos h2])
            clear HV2
            go_wp2_with fail
            go_ret3
            rw [HW.out]
            exact ⟨rfl, (Below.refl _ _).drew⟩
          · have HW := Lib.hid (show V = (q, r, true) by rw [HV2.out, if_neg h2])
            clear HV2
            go_wp2_with fail
            go_ret3
            rw [HW.out]
            exact ⟨rfl, (Below.refl _ _).drew⟩
      · have HW := Lib.hid (show V = signedV n y true by rw [HV.out, if_neg hz, if_pos rfl])
        have KS2 := Lib.hid (KS.out hz)
        clear HV KS hz
        go_wp2_with fail
        refine (KS2.out _).mono ?_
        rw [← HW.out]
        clear HW KS2
        obtain ⟨v1, v2, v3⟩ := V
        rintro e w1 ⟨rfl, hb⟩; dsimp only
        go_wp2_with fail
        go_ret3
        exact ⟨rfl, hb⟩
end Go.Proofs.YtcglkefaopgjeaaGreatDoor

/- Package cpu: divide: walk. -/
namespace Go.Proofs.YtcglkefaopgjeaaGreatDoor
set_option linter.unusedSimpArgs false
set_option linter.unusedVariables false
open Go.RowKit

def limW (wide : Bool) : Int := if wide then 65535 else 255
theorem cut_lim (n : Int) (wide : Bool) (h0 : 0 ≤ n) (h1 : n ≤ 65535) : 0 ≤ cutW n wide ∧ cutW n wide ≤ limW wide := by unfold cutW limW; cases wide <;> simp <;> omega
theorem divV_wf (name low high b : Int) (wide : Bool) (l0 : 0 ≤ low) (l1 : low ≤ 65535) (h0 : 0 ≤ high) (h1 : high ≤ 65535) (b0 : 0 ≤ b) (b1 : b ≤ 65535) :
    (0 ≤ (divV name low high b wide).1 ∧ (divV name low high b wide).1 ≤ limW wide) ∧ (0 ≤ (divV name low high b wide).2.1 ∧ (divV name low high b wide).2.1 ≤ limW wide) := by
  have z : 0 ≤ (0 : Int) ∧ (0 : Int) ≤ limW wide := by unfold limW; cases wide <;> simp
  have hb := cut_lim b wide b0 b1
  have hc := cut_lim 65535 wide (by decide) (by decide)
  have hn : 0 ≤ divN low high wide := by unfold divN; cases wide <;> simp <;> omega
  unfold divV
  generalize divN low high wide = n at hn ⊢
  generalize cutW b wide = y at hb ⊢
  by_cases e : y = 0
  · rw [if_pos e]; exact ⟨z, z⟩
  · rw [if_neg e]
    by_cases k : name = 89
    · rw [if_pos k]
      unfold signedV
      dsimp only
      generalize (if wide = true then (32767 : Int) else 127) = most
      split
      · exact ⟨z, z⟩
      · exact ⟨cut_lim _ wide (wrap16_lo _) (wrap16_hi _), cut_lim _ wide (wrap16_lo _) (wrap16_hi _)⟩
    · rw [if_neg k]
      split
      · exact ⟨z, z⟩
      · next h =>
        have e1 := Int.ediv_nonneg hn hb.1
        have e2 := Int.emod_nonneg n e
        have e3 := Int.emod_lt_of_pos n (show 0 < y by omega)
        exact ⟨⟨e1, by dsimp only; omega⟩, ⟨e2, by dsimp only; omega⟩⟩
theorem limW_le (wide : Bool) : limW wide ≤ 65535 := by cases wide <;> decide
def Mach.divM (m : Mach) (name by_ : Int) (wide : Bool) : Mach :=
  let m1 := if wide then (m.plain m.r.g0).plain m.r.g2 else m.plain m.r.g0
  let D := divV name (if wide then m.r.g0.v else m.r.g0.v % 256) (if wide then m.r.g2.v else m.r.g0.v / 256) by_ wide
  if D.2.2 then m1.setR (m.r.mulR D.1 D.2.1 wide) else m1.end 5

set_option maxRecDepth 100000 in
set_option maxHeartbeats 3200000 in
theorem divi_true (w : World) (C : Phys) (lv : Value) (m : Mach) (h : Own w C lv m) (name by_ : Int) (hn : name = 88 ∨ name = 89) (b0 : 0 ≤ by_) (b1 : by_ ≤ 65535) :
    Calls Tryz.prog 188 #[.pointer (some ⟨C.b, 0, none⟩), .int .i64 name, .int .u16 by_, .bool true] w fun e w' => e = .returned (.tuple #[]) ∧ After C lv w (m.divM name by_ true) w' := by
  have KD := Lib.hid (fun w => div_any name m.r.g0.v m.r.g2.v by_ true w hn h.wf.r.g0.1 h.wf.r.g0.2 h.wf.r.g2.1 h.wf.r.g2.2 b0 b1)
  have hP := divV_wf name m.r.g0.v m.r.g2.v by_ true h.wf.r.g0.1 h.wf.r.g0.2 h.wf.r.g2.1 h.wf.r.g2.2 b0 b1
  have HD := Lib.hid (show m.divM name by_ true = if (divV name m.r.g0.v m.r.g2.v by_ true).2.2 then ((m.plain m.r.g0).plain m.r.g2).setR (m.r.mulR (divV name m.r.g0.v m.r.g2.v by_ true).1 (divV name m.r.g0.v m.r.g2.v by_ true).2.1 true) else ((m.plain m.r.g0).plain m.r.g2).end 5 from rfl)
  generalize divV name m.r.g0.v m.r.g2.v by_ true = D at KD HD hP
  obtain ⟨q, rest, ok⟩ := D
  dsimp only at KD HD hP
  have HWL := Lib.hid (show V.wf ⟨q, false⟩ from ⟨hP.1.1, hP.1.2⟩)
  have HWH := Lib.hid (show V.wf ⟨rest, false⟩ from ⟨hP.2.1, hP.2.2⟩)
  clear hP
  have HWF := Lib.hid h.wf.r
  have HO0 := Lib.hid h; have HA0 := Lib.hid (Acc.refl C lv w); have sc := HO0.out.sees.c; have sf := HO0.out.sees.f; have sr := HO0.out.sees.r; have ss := HO0.out.sees.s; have sl := HO0.out.sees.l; clear h
  go_enter Tryz.func188, Tryz.ntmps188
  go_wp2_with fail
  refine (get_any m.r 0 _).mono ?_
  rw [show m.r.get 0 = m.r.g0 from rfl]
  rintro e w1 ⟨rfl, hb⟩; dsimp only
  have HO1 := Lib.hid (HO0.out.below hb)
  have HA1 := Lib.hid (HA0.out.below hb)
  clear sc sf sr ss sl; clear hb
  go_wp2_with fail
  refine (plain_any _ _ _ _ HO1.out m.r.g0).mono ?_
  have HR := Lib.hid (plain_r m m.r.g0)
  generalize m.plain m.r.g0 = m2 at HD HR
  rintro e w2 ⟨rfl, lv2, h2, f2, k2⟩; dsimp only
  have HO2 := Lib.hid h2
  have HA2 := Lib.hid (HA1.out.trans ⟨f2, k2⟩)
  clear h2 f2 k2
  have sc := HO2.out.sees.c; have sf := HO2.out.sees.f; have sr := HO2.out.sees.r; have ss := HO2.out.sees.s; have sl := HO2.out.sees.l
  rw [HR.out] at sr
  go_wp2_with fail
  refine (get_any m.r 2 _).mono ?_
  rw [show m.r.get 2 = m.r.g2 from rfl]
  rintro e w3 ⟨rfl, hb⟩; dsimp only
  have HO3 := Lib.hid (HO2.out.below hb)
  have HA3 := Lib.hid (HA2.out.below hb)
  clear sc sf sr ss sl; clear hb
  go_wp2_with fail
  refine (plain_any _ _ _ _ HO3.out m.r.g2).mono ?_
  have HR2 := Lib.hid ((plain_r m2 m.r.g2).trans HR.out)
  generalize m2.plain m.r.g2 = m3 at HD HR2
  rintro e w4 ⟨rfl, lv4, h4, f4, k4⟩; dsimp only
  have HO4 := Lib.hid h4
  have HA4 := Lib.hid (HA3.out.trans ⟨f4, k4⟩)
  clear h4 f4 k4
  go_wp2_with fail
  refine (KD.out _).mono ?_
  rintro e w5 ⟨rfl, hb⟩; dsimp only
  have HO5 := Lib.hid (HO4.out.below hb)
  have HA5 := Lib.hid (HA4.out.below hb)
  clear hb KD HR
  obtain ⟨r, hr⟩ : ∃ r, m.r = r := ⟨_, rfl⟩
  rw [hr] at HR2 HD HWF
  clear hr
  cases ok with
  | false =>
    have HE := Lib.hid (show m.divM name by_ true = m3.end 5 from HD.out)
    clear HD
    go_wp2_with fail
    refine (end_any _ _ _ _ HO5.out 5).mono ?_
    rintro e w6 ⟨rfl, lv6, h6, f6, k6⟩; dsimp only
    have HF := Lib.hid (After.mk h6 (HA5.out.trans ⟨f6, k6⟩))
    clear h6 f6 k6
    go_wp2_with fail
    (first | go_end0 | (((try simp only [Exit.inBlock, Exit.then]); refine bodyPost_ret (results_none rfl _ _ _) rfl ?_)))
    rw [HE.out]
    exact ⟨rfl, HF.out⟩
  | true =>
    have w3 := Regs.put_wf HWF.out 0 HWL.out
    have w4 := Regs.put_wf w3 2 HWH.out
    have KP := Lib.hid (fun w => put_any r 0 ⟨q, false⟩ w)
    have HE := Lib.hid (show m.divM name by_ true = m3.setR ((r.put 0 ⟨q, false⟩).put 2 ⟨rest, false⟩) from HD.out)
    clear HD
    generalize r.put 0 ⟨q, false⟩ = r3 at w3 w4 KP HE
    have KQ := Lib.hid (fun w => put_any r3 2 ⟨rest, false⟩ w)
    generalize r3.put 2 ⟨rest, false⟩ = r4 at w4 KQ HE
    have W3 := Lib.hid w3
    have W4 := Lib.hid w4
    clear w3 w4
    have sc := HO5.out.sees.c; have sf := HO5.out.sees.f; have sr := HO5.out.sees.r; have ss := HO5.out.sees.s; have sl := HO5.out.sees.l
    rw [HR2.out] at sr
    go_wp2_with fail
    refine (KP.out _).mono ?_
    rintro e w6 ⟨rfl, hb⟩; dsimp only
    have HO6 := Lib.hid (HO5.out.below hb)
    have HA6 := Lib.hid (HA5.out.below hb)
    clear sc sf sr ss sl; clear hb
    have sc := HO6.out.sees.c; have sf := HO6.out.sees.f; have sr := HO6.out.sees.r; have ss := HO6.out.sees.s; have sl := HO6.out.sees.l
    go_upto_region 9 with fail
    have HO7 := Lib.hid (HO6.out.putR r3 W3.out)
    have HA7 := Lib.hid (HA6.out.putR r3)
    clear sc sf sr ss sl
    generalize putR w6 C.b r3 = w7 at HO7 HA7 ⊢
    have sc := HO7.out.sees.c; have sf := HO7.out.sees.f; have sr := HO7.out.sees.r; have ss := HO7.out.sees.s; have sl := HO7.out.sees.l
    replace sr : regsIn w7 C.b = some r3.val := sr
    go_wp2_with fail
    refine (KQ.out _).mono ?_
    rintro e w8 ⟨rfl, hb⟩; dsimp only
    have HO8 := Lib.hid (HO7.out.below hb)
    have HA8 := Lib.hid (HA7.out.below hb)
    clear sc sf sr ss sl; clear hb
    have sc := HO8.out.sees.c; have sf := HO8.out.sees.f; have sr := HO8.out.sees.r; have ss := HO8.out.sees.s; have sl := HO8.out.sees.l
    go_wp2_with fail
    (first | go_end0 | (((try simp only [Exit.inBlock, Exit.then]); refine bodyPost_ret (results_none rfl _ _ _) rfl ?_)))
    rw [HE.out]
    exact ⟨rfl, After.mk (HO8.out.putR _ W4.out) (HA8.out.putR _)⟩

set_option maxRecDepth 100000 in
set_option maxHeartbeats 3200000 in
theorem divi_false (w : World) (C : Phys) (lv : Value) (m : Mach) (h : Own w C lv m) (name by_ : Int) (hn : name = 88 ∨ name = 89) (b0 : 0 ≤ by_) (b1 : by_ ≤ 65535) :
    Calls Tryz.prog 188 #[.pointer (some ⟨C.b, 0, none⟩), .int .i64 name, .int .u16 by_, .bool false] w fun e w' => e = .returned (.tuple #[]) ∧ After C lv w (m.divM name by_ false) w' := by
  have v0 := h.wf.r.g0
  have x0 : 0 ≤ m.r.g0.v % 256 ∧ m.r.g0.v % 256 ≤ 65535 := by omega
  have y0 : 0 ≤ m.r.g0.v / 256 ∧ m.r.g0.v / 256 ≤ 65535 := by have := v0.1; have := v0.2; omega
  have KD := Lib.hid (fun w => div_any name (m.r.g0.v % 256) (m.r.g0.v / 256) by_ false w hn x0.1 x0.2 y0.1 y0.2 b0 b1)
  have hP := divV_wf name (m.r.g0.v % 256) (m.r.g0.v / 256) by_ false x0.1 x0.2 y0.1 y0.2 b0 b1
  have HD := Lib.hid (show m.divM name by_ false = if (divV name (m.r.g0.v % 256) (m.r.g0.v / 256) by_ false).2.2 then (m.plain m.r.g0).setR (m.r.put 0 ⟨(divV name (m.r.g0.v % 256) (m.r.g0.v / 256) by_ false).1 + 256 * (divV name (m.r.g0.v % 256) (m.r.g0.v / 256) by_ false).2.1, false⟩) else (m.plain m.r.g0).end 5 from rfl)
  generalize divV name (m.r.g0.v % 256) (m.r.g0.v / 256) by_ false = D at KD HD hP
  obtain ⟨q, rest, ok⟩ := D
  dsimp only at KD HD hP
  have q2 : q ≤ 255 := hP.1.2
  have r2 : rest ≤ 255 := hP.2.2
  have HWX := Lib.hid (show V.wf ⟨q + 256 * rest, false⟩ from ⟨by dsimp only; omega, by dsimp only; omega⟩)
  have eor : bits .or .u16 q (rest * 256) = q + 256 * rest := word_bits q rest hP.1.1 q2 hP.2.1 r2
  have e255 : andW m.r.g0.v 255 = m.r.g0.v % 256 := and255 _ v0.1 v0.2
  have rest0 := hP.2.1
  clear hP
  have HWF := Lib.hid h.wf.r
  have HO0 := Lib.hid h; have HA0 := Lib.hid (Acc.refl C lv w); have sc := HO0.out.sees.c; have sf := HO0.out.sees.f; have sr := HO0.out.sees.r; have ss := HO0.out.sees.s; have sl := HO0.out.sees.l; clear h
  go_enter Tryz.func188, Tryz.ntmps188
  go_wp2_with fail
  refine (get_any m.r 0 _).mono ?_
  rw [show m.r.get 0 = m.r.g0 from rfl]
  rintro e w1 ⟨rfl, hb⟩; dsimp only
  have HO1 := Lib.hid (HO0.out.below hb)
  have HA1 := Lib.hid (HA0.out.below hb)
  clear sc sf sr ss sl; clear hb
  go_wp2_with fail
  refine (plain_any _ _ _ _ HO1.out m.r.g0).mono ?_
  have HR2 := Lib.hid (plain_r m m.r.g0)
  generalize m.plain m.r.g0 = m3 at HD HR2
  rintro e w4 ⟨rfl, lv4, h4, f4, k4⟩; dsimp only
  have HO4 := Lib.hid h4
  have HA4 := Lib.hid (HA1.out.trans ⟨f4, k4⟩)
  clear h4 f4 k4
  go_wp2_with fail
  refine (KD.out _).mono ?_
  rintro e w5 ⟨rfl, hb⟩; dsimp only
  have HO5 := Lib.hid (HO4.out.below hb)
  have HA5 := Lib.hid (HA4.out.below hb)
  clear hb KD
  obtain ⟨r, hr⟩ : ∃ r, m.r = r := ⟨_, rfl⟩
  rw [hr] at HR2 HD HWF
  cases ok with
  | false =>
    have HE := Lib.hid (show m.divM name by_ false = m3.end 5 from HD.out)
    clear HD
    go_wp2_with fail
    refine (end_any _ _ _ _ HO5.out 5).mono ?_
    rintro e w6 ⟨rfl, lv6, h6, f6, k6⟩; dsimp only
    have HF := Lib.hid (After.mk h6 (HA5.out.trans ⟨f6, k6⟩))
    clear h6 f6 k6
    go_wp2_with fail
    (first | go_end0 | (((try simp only [Exit.inBlock, Exit.then]); refine bodyPost_ret (results_none rfl _ _ _) rfl ?_)))
    rw [HE.out]
    exact ⟨rfl, HF.out⟩
  | true =>
    have w4 := Regs.put_wf HWF.out 0 HWX.out
    have KQ := Lib.hid (fun w => put_any r 0 ⟨q + 256 * rest, false⟩ w)
    have HE := Lib.hid (show m.divM name by_ false = m3.setR (r.put 0 ⟨q + 256 * rest, false⟩) from HD.out)
    clear HD
    generalize r.put 0 ⟨q + 256 * rest, false⟩ = r4 at w4 KQ HE
    have W4 := Lib.hid w4
    clear w4
    have sc := HO5.out.sees.c; have sf := HO5.out.sees.f; have sr := HO5.out.sees.r; have ss := HO5.out.sees.s; have sl := HO5.out.sees.l
    rw [HR2.out] at sr
    go_wp2_with fail
    refine (KQ.out _).mono ?_
    rintro e w8 ⟨rfl, hb⟩; dsimp only
    have HO8 := Lib.hid (HO5.out.below hb)
    have HA8 := Lib.hid (HA5.out.below hb)
    clear sc sf sr ss sl; clear hb
    have sc := HO8.out.sees.c; have sf := HO8.out.sees.f; have sr := HO8.out.sees.r; have ss := HO8.out.sees.s; have sl := HO8.out.sees.l
    go_wp2_with fail
    (first | go_end0 | (((try simp only [Exit.inBlock, Exit.then]); refine bodyPost_ret (results_none rfl _ _ _) rfl ?_)))
    rw [HE.out]
    exact ⟨rfl, After.mk (HO8.out.putR _ W4.out) (HA8.out.putR _)⟩
theorem divi_any (w : World) (C : Phys) (lv : Value) (m : Mach) (h : Own w C lv m) (name by_ : Int) (wide : Bool) (hn : name = 88 ∨ name = 89) (b0 : 0 ≤ by_) (b1 : by_ ≤ 65535) :
    Calls Tryz.prog 188 #[.pointer (some ⟨C.b, 0, none⟩), .int .i64 name, .int .u16 by_, .bool wide] w fun e w' => e = .returned (.tuple #[]) ∧ After C lv w (m.divM name by_ wide) w' := by
  cases wide
  · exact divi_false w C lv m h name by_ hn b0 b1
  · exact divi_true w C lv m h name by_ hn b0 b1
end Go.Proofs.YtcglkefaopgjeaaGreatDoor

/- Package cpu: numbers, of products and divisions: walks. -/
namespace Go.Proofs.YtcglkefaopgjeaaGreatDoor
set_option linter.unusedSimpArgs false
set_option linter.unusedVariables false
open Go.RowKit

set_option maxRecDepth 100000 in
set_option maxHeartbeats 3200000 in
theorem numbers_86 (w : World) (C : Phys) (lv : Value) (m : Mach) (h : Own w C lv m) (T : TypeId) (hb : Box C lv w 0 basesC T) (i : Inst) (r : IRow) (t : V) (ht : t.wf) (hn : r.name = 86) (ha0 : 0 ≤ r.a) (ha1 : r.a ≤ 24) (hg : GetOkG T i r.a) :
    Calls Tryz.prog 131 #[.pointer (some ⟨C.b, 0, none⟩), i.val, r.val, t.val] w fun e w' => e = .returned (.tuple #[]) ∧ After C lv w (((m.getM i r.a).plain (m.getV i r.a t)).mulM 86 (m.getV i r.a t).v (wideB r.a)) w' := by
  obtain ⟨name, ra, rb, rm⟩ := r
  dsimp only at hn hg ha0 ha1
  subst hn
  have hs := st3 h i ⟨86, ra, rb, rm⟩ t
  have hvw := getV_wf h i ra ht
  dsimp only
  obtain ⟨v, hv⟩ : ∃ v, m.getV i ra t = v := ⟨_, rfl⟩
  obtain ⟨m1, hm1⟩ : ∃ m1, m.getM i ra = m1 := ⟨_, rfl⟩
  obtain ⟨m2, hm2⟩ : ∃ m2, m1.plain v = m2 := ⟨_, rfl⟩
  obtain ⟨m3, hm3⟩ : ∃ m3, m2.mulM 86 v.v (wideB ra) = m3 := ⟨_, rfl⟩
  rw [hv] at hvw
  rw [hm1, hv, hm2, hm3]
  have KW := Lib.hid (fun w => wide_any ra w ha0 ha1)
  have KA := Lib.hid (St3.callsG (lv := lv) (w0 := w) (i := i) (r := ⟨86, ra, rb, rm⟩) (t := t) hb (fun w lv h hb => hm1 ▸ hv ▸ hg w C lv m h hb t))
  have KP := Lib.hid (St3.calls (lv := lv) (w0 := w) (i := i) (r := ⟨86, ra, rb, rm⟩) (t := t) (fun w lv h => hm2 ▸ plain_any w C lv m1 h v))
  have KM := Lib.hid (St3.calls (lv := lv) (w0 := w) (i := i) (r := ⟨86, ra, rb, rm⟩) (t := t) (fun w lv h => hm3 ▸ mult_any w C lv m2 h 86 v.v (wideB ra) (by decide) hvw.1 hvw.2))
  generalize wideB ra = wd at KW KM
  clear h hb hg hv hm1 hm2 hm3 hvw ha0 ha1
  have xi := hs.ci
  have xr := hs.cr
  have xt := hs.ct
  have sc := hs.sees.c
  go_enter Tryz.func131, Tryz.ntmps131
  go_wp2_with fail
  refine (KW.out _).mono ?_
  rintro e w' ⟨rfl, rfl⟩; dsimp only
  go_upto_region 29 with fail
  generalize ((w.alloc (.cells (instC i) 30)).alloc (.cells (rowC ⟨86, ra, rb, rm⟩) 47)).alloc (.cells (valC t) 24) = W0 at *
  have S0 := Lib.hid hs.drew
  clear hs sc
  go_region_held3 (fun w' => (∀ j, w'.cell? ⟨w.heap.size, j, none⟩ = (instC i)[j]?) ∧ (∀ j, w'.cell? ⟨w.heap.size + 1, j, none⟩ = (rowC ⟨86, ra, rb, rm⟩)[j]?) ∧ (∀ j, w'.cell? ⟨w.heap.size + 1 + 1, j, none⟩ = (valC t)[j]?)) (go_keep) (first | (go_at_call 66; with_reducible refine (KA.out _ ?_).mono ?_; (focus (refine Hid.out ?_; assumption)); rintro e w1 ⟨rfl, hq⟩; have y1 := hq.ci; have y2 := hq.cr; have y3 := hq.ct; have S1 := Lib.hid hq; clear hq) | (go_at_call 115; with_reducible refine (KP.out _ ?_).mono ?_; (focus (refine Hid.out ?_; assumption)); rintro e w2 ⟨rfl, hq⟩; have y4 := hq.ci; have y5 := hq.cr; have y6 := hq.ct; have S2 := Lib.hid hq; clear hq) | (go_at_call 187; with_reducible refine (KM.out _ ?_).mono ?_; (focus (refine Hid.out ?_; assumption)); rintro e w3 ⟨rfl, hq⟩; have z1 := hq.ci; have z2 := hq.cr; have z3 := hq.ct; have S3 := Lib.hid hq; clear hq))
  all_goals
    go_wp2_with fail
    (first | go_end0 | (((try simp only [Exit.inBlock, Exit.then]); refine bodyPost_ret (results_none rfl _ _ _) rfl ?_)))
    exact ⟨rfl, S3.out.fin⟩
set_option maxRecDepth 100000 in
set_option maxHeartbeats 3200000 in
theorem numbers_87 (w : World) (C : Phys) (lv : Value) (m : Mach) (h : Own w C lv m) (T : TypeId) (hb : Box C lv w 0 basesC T) (i : Inst) (r : IRow) (t : V) (ht : t.wf) (hn : r.name = 87) (ha0 : 0 ≤ r.a) (ha1 : r.a ≤ 24) (hg : GetOkG T i r.a) :
    Calls Tryz.prog 131 #[.pointer (some ⟨C.b, 0, none⟩), i.val, r.val, t.val] w fun e w' => e = .returned (.tuple #[]) ∧ After C lv w (((m.getM i r.a).plain (m.getV i r.a t)).mulM 87 (m.getV i r.a t).v (wideB r.a)) w' := by
  obtain ⟨name, ra, rb, rm⟩ := r
  dsimp only at hn hg ha0 ha1
  subst hn
  have hs := st3 h i ⟨87, ra, rb, rm⟩ t
  have hvw := getV_wf h i ra ht
  dsimp only
  obtain ⟨v, hv⟩ : ∃ v, m.getV i ra t = v := ⟨_, rfl⟩
  obtain ⟨m1, hm1⟩ : ∃ m1, m.getM i ra = m1 := ⟨_, rfl⟩
  obtain ⟨m2, hm2⟩ : ∃ m2, m1.plain v = m2 := ⟨_, rfl⟩
  obtain ⟨m3, hm3⟩ : ∃ m3, m2.mulM 87 v.v (wideB ra) = m3 := ⟨_, rfl⟩
  rw [hv] at hvw
  rw [hm1, hv, hm2, hm3]
  have KW := Lib.hid (fun w => wide_any ra w ha0 ha1)
  have KA := Lib.hid (St3.callsG (lv := lv) (w0 := w) (i := i) (r := ⟨87, ra, rb, rm⟩) (t := t) hb (fun w lv h hb => hm1 ▸ hv ▸ hg w C lv m h hb t))
  have KP := Lib.hid (St3.calls (lv := lv) (w0 := w) (i := i) (r := ⟨87, ra, rb, rm⟩) (t := t) (fun w lv h => hm2 ▸ plain_any w C lv m1 h v))
  have KM := Lib.hid (St3.calls (lv := lv) (w0 := w) (i := i) (r := ⟨87, ra, rb, rm⟩) (t := t) (fun w lv h => hm3 ▸ mult_any w C lv m2 h 87 v.v (wideB ra) (by decide) hvw.1 hvw.2))
  generalize wideB ra = wd at KW KM
  clear h hb hg hv hm1 hm2 hm3 hvw ha0 ha1
  have xi := hs.ci
  have xr := hs.cr
  have xt := hs.ct
  have sc := hs.sees.c
  go_enter Tryz.func131, Tryz.ntmps131
  go_wp2_with fail
  refine (KW.out _).mono ?_
  rintro e w' ⟨rfl, rfl⟩; dsimp only
  go_upto_region 29 with fail
  generalize ((w.alloc (.cells (instC i) 30)).alloc (.cells (rowC ⟨87, ra, rb, rm⟩) 47)).alloc (.cells (valC t) 24) = W0 at *
  have S0 := Lib.hid hs.drew
  clear hs sc
  go_region_held3 (fun w' => (∀ j, w'.cell? ⟨w.heap.size, j, none⟩ = (instC i)[j]?) ∧ (∀ j, w'.cell? ⟨w.heap.size + 1, j, none⟩ = (rowC ⟨87, ra, rb, rm⟩)[j]?) ∧ (∀ j, w'.cell? ⟨w.heap.size + 1 + 1, j, none⟩ = (valC t)[j]?)) (go_keep) (first | (go_at_call 66; with_reducible refine (KA.out _ ?_).mono ?_; (focus (refine Hid.out ?_; assumption)); rintro e w1 ⟨rfl, hq⟩; have y1 := hq.ci; have y2 := hq.cr; have y3 := hq.ct; have S1 := Lib.hid hq; clear hq) | (go_at_call 115; with_reducible refine (KP.out _ ?_).mono ?_; (focus (refine Hid.out ?_; assumption)); rintro e w2 ⟨rfl, hq⟩; have y4 := hq.ci; have y5 := hq.cr; have y6 := hq.ct; have S2 := Lib.hid hq; clear hq) | (go_at_call 187; with_reducible refine (KM.out _ ?_).mono ?_; (focus (refine Hid.out ?_; assumption)); rintro e w3 ⟨rfl, hq⟩; have z1 := hq.ci; have z2 := hq.cr; have z3 := hq.ct; have S3 := Lib.hid hq; clear hq))
  all_goals
    go_wp2_with fail
    (first | go_end0 | (((try simp only [Exit.inBlock, Exit.then]); refine bodyPost_ret (results_none rfl _ _ _) rfl ?_)))
    exact ⟨rfl, S3.out.fin⟩
set_option maxRecDepth 100000 in
set_option maxHeartbeats 3200000 in
theorem numbers_88 (w : World) (C : Phys) (lv : Value) (m : Mach) (h : Own w C lv m) (T : TypeId) (hb : Box C lv w 0 basesC T) (i : Inst) (r : IRow) (t : V) (ht : t.wf) (hn : r.name = 88) (ha0 : 0 ≤ r.a) (ha1 : r.a ≤ 24) (hg : GetOkG T i r.a) :
    Calls Tryz.prog 131 #[.pointer (some ⟨C.b, 0, none⟩), i.val, r.val, t.val] w fun e w' => e = .returned (.tuple #[]) ∧ After C lv w (((m.getM i r.a).plain (m.getV i r.a t)).divM 88 (m.getV i r.a t).v (wideB r.a)) w' := by
  obtain ⟨name, ra, rb, rm⟩ := r
  dsimp only at hn hg ha0 ha1
  subst hn
  have hs := st3 h i ⟨88, ra, rb, rm⟩ t
  have hvw := getV_wf h i ra ht
  dsimp only
  obtain ⟨v, hv⟩ : ∃ v, m.getV i ra t = v := ⟨_, rfl⟩
  obtain ⟨m1, hm1⟩ : ∃ m1, m.getM i ra = m1 := ⟨_, rfl⟩
  obtain ⟨m2, hm2⟩ : ∃ m2, m1.plain v = m2 := ⟨_, rfl⟩
  obtain ⟨m3, hm3⟩ : ∃ m3, m2.divM 88 v.v (wideB ra) = m3 := ⟨_, rfl⟩
  rw [hv] at hvw
  rw [hm1, hv, hm2, hm3]
  have KW := Lib.hid (fun w => wide_any ra w ha0 ha1)
  have KA := Lib.hid (St3.callsG (lv := lv) (w0 := w) (i := i) (r := ⟨88, ra, rb, rm⟩) (t := t) hb (fun w lv h hb => hm1 ▸ hv ▸ hg w C lv m h hb t))
  have KP := Lib.hid (St3.calls (lv := lv) (w0 := w) (i := i) (r := ⟨88, ra, rb, rm⟩) (t := t) (fun w lv h => hm2 ▸ plain_any w C lv m1 h v))
  have KM := Lib.hid (St3.calls (lv := lv) (w0 := w) (i := i) (r := ⟨88, ra, rb, rm⟩) (t := t) (fun w lv h => hm3 ▸ divi_any w C lv m2 h 88 v.v (wideB ra) (by decide) hvw.1 hvw.2))
  generalize wideB ra = wd at KW KM
  clear h hb hg hv hm1 hm2 hm3 hvw ha0 ha1
  have xi := hs.ci
  have xr := hs.cr
  have xt := hs.ct
  have sc := hs.sees.c
  go_enter Tryz.func131, Tryz.ntmps131
  go_wp2_with fail
  refine (KW.out _).mono ?_
  rintro e w' ⟨rfl, rfl⟩; dsimp only
  go_upto_region 32 with fail
  generalize ((w.alloc (.cells (instC i) 30)).alloc (.cells (rowC ⟨88, ra, rb, rm⟩) 47)).alloc (.cells (valC t) 24) = W0 at *
  have S0 := Lib.hid hs.drew
  clear hs sc
  go_region_held3 (fun w' => (∀ j, w'.cell? ⟨w.heap.size, j, none⟩ = (instC i)[j]?) ∧ (∀ j, w'.cell? ⟨w.heap.size + 1, j, none⟩ = (rowC ⟨88, ra, rb, rm⟩)[j]?) ∧ (∀ j, w'.cell? ⟨w.heap.size + 1 + 1, j, none⟩ = (valC t)[j]?)) (go_keep) (first | (go_at_call 66; with_reducible refine (KA.out _ ?_).mono ?_; (focus (refine Hid.out ?_; assumption)); rintro e w1 ⟨rfl, hq⟩; have y1 := hq.ci; have y2 := hq.cr; have y3 := hq.ct; have S1 := Lib.hid hq; clear hq) | (go_at_call 115; with_reducible refine (KP.out _ ?_).mono ?_; (focus (refine Hid.out ?_; assumption)); rintro e w2 ⟨rfl, hq⟩; have y4 := hq.ci; have y5 := hq.cr; have y6 := hq.ct; have S2 := Lib.hid hq; clear hq) | (go_at_call 188; with_reducible refine (KM.out _ ?_).mono ?_; (focus (refine Hid.out ?_; assumption)); rintro e w3 ⟨rfl, hq⟩; have z1 := hq.ci; have z2 := hq.cr; have z3 := hq.ct; have S3 := Lib.hid hq; clear hq))
  all_goals
    go_wp2_with fail
    (first | go_end0 | (((try simp only [Exit.inBlock, Exit.then]); refine bodyPost_ret (results_none rfl _ _ _) rfl ?_)))
    exact ⟨rfl, S3.out.fin⟩
set_option maxRecDepth 100000 in
set_option maxHeartbeats 3200000 in
theorem numbers_89 (w : World) (C : Phys) (lv : Value) (m : Mach) (h : Own w C lv m) (T : TypeId) (hb : Box C lv w 0 basesC T) (i : Inst) (r : IRow) (t : V) (ht : t.wf) (hn : r.name = 89) (ha0 : 0 ≤ r.a) (ha1 : r.a ≤ 24) (hg : GetOkG T i r.a) :
    Calls Tryz.prog 131 #[.pointer (some ⟨C.b, 0, none⟩), i.val, r.val, t.val] w fun e w' => e = .returned (.tuple #[]) ∧ After C lv w (((m.getM i r.a).plain (m.getV i r.a t)).divM 89 (m.getV i r.a t).v (wideB r.a)) w' := by
  obtain ⟨name, ra, rb, rm⟩ := r
  dsimp only at hn hg ha0 ha1
  subst hn
  have hs := st3 h i ⟨89, ra, rb, rm⟩ t
  have hvw := getV_wf h i ra ht
  dsimp only
  obtain ⟨v, hv⟩ : ∃ v, m.getV i ra t = v := ⟨_, rfl⟩
  obtain ⟨m1, hm1⟩ : ∃ m1, m.getM i ra = m1 := ⟨_, rfl⟩
  obtain ⟨m2, hm2⟩ : ∃ m2, m1.plain v = m2 := ⟨_, rfl⟩
  obtain ⟨m3, hm3⟩ : ∃ m3, m2.divM 89 v.v (wideB ra) = m3 := ⟨_, rfl⟩
  rw [hv] at hvw
  rw [hm1, hv, hm2, hm3]
  have KW := Lib.hid (fun w => wide_any ra w ha0 ha1)
  have KA := Lib.hid (St3.callsG (lv := lv) (w0 := w) (i := i) (r := ⟨89, ra, rb, rm⟩) (t := t) hb (fun w lv h hb => hm1 ▸ hv ▸ hg w C lv m h hb t))
  have KP := Lib.hid (St3.calls (lv := lv) (w0 := w) (i := i) (r := ⟨89, ra, rb, rm⟩) (t := t) (fun w lv h => hm2 ▸ plain_any w C lv m1 h v))
  have KM := Lib.hid (St3.calls (lv := lv) (w0 := w) (i := i) (r := ⟨89, ra, rb, rm⟩) (t := t) (fun w lv h => hm3 ▸ divi_any w C lv m2 h 89 v.v (wideB ra) (by decide) hvw.1 hvw.2))
  generalize wideB ra = wd at KW KM
  clear h hb hg hv hm1 hm2 hm3 hvw ha0 ha1
  have xi := hs.ci
  have xr := hs.cr
  have xt := hs.ct
  have sc := hs.sees.c
  go_enter Tryz.func131, Tryz.ntmps131
  go_wp2_with fail
  refine (KW.out _).mono ?_
  rintro e w' ⟨rfl, rfl⟩; dsimp only
  go_upto_region 32 with fail
  generalize ((w.alloc (.cells (instC i) 30)).alloc (.cells (rowC ⟨89, ra, rb, rm⟩) 47)).alloc (.cells (valC t) 24) = W0 at *
  have S0 := Lib.hid hs.drew
  clear hs sc
  go_region_held3 (fun w' => (∀ j, w'.cell? ⟨w.heap.size, j, none⟩ = (instC i)[j]?) ∧ (∀ j, w'.cell? ⟨w.heap.size + 1, j, none⟩ = (rowC ⟨89, ra, rb, rm⟩)[j]?) ∧ (∀ j, w'.cell? ⟨w.heap.size + 1 + 1, j, none⟩ = (valC t)[j]?)) (go_keep) (first | (go_at_call 66; with_reducible refine (KA.out _ ?_).mono ?_; (focus (refine Hid.out ?_; assumption)); rintro e w1 ⟨rfl, hq⟩; have y1 := hq.ci; have y2 := hq.cr; have y3 := hq.ct; have S1 := Lib.hid hq; clear hq) | (go_at_call 115; with_reducible refine (KP.out _ ?_).mono ?_; (focus (refine Hid.out ?_; assumption)); rintro e w2 ⟨rfl, hq⟩; have y4 := hq.ci; have y5 := hq.cr; have y6 := hq.ct; have S2 := Lib.hid hq; clear hq) | (go_at_call 188; with_reducible refine (KM.out _ ?_).mono ?_; (focus (refine Hid.out ?_; assumption)); rintro e w3 ⟨rfl, hq⟩; have z1 := hq.ci; have z2 := hq.cr; have z3 := hq.ct; have S3 := Lib.hid hq; clear hq))
  all_goals
    go_wp2_with fail
    (first | go_end0 | (((try simp only [Exit.inBlock, Exit.then]); refine bodyPost_ret (results_none rfl _ _ _) rfl ?_)))
    exact ⟨rfl, S3.out.fin⟩
end Go.Proofs.YtcglkefaopgjeaaGreatDoor

/- Flags C and O behind a product: plain laws. -/
namespace Go.Proofs.YtcglkefaopgjeaaGreatDoor
set_option linter.unusedSimpArgs false
set_option linter.unusedVariables false
open Go.RowKit

theorem lowC : andW 1 4053 = 1 := by kernel_rfl
theorem lowO : andW 2048 4053 = 2048 := by kernel_rfl
theorem two_flags (r : Regs) (f0 : 0 ≤ r.f) (f1 : r.f ≤ 65535) (b : Bool) : andW ((r.withF 1 b).withF 2048 b).f 1 = ifI b 1 ∧ andW ((r.withF 1 b).withF 2048 b).f 2048 = ifI b 2048 := by
  unfold Regs.withF
  dsimp only
  rw [lowC, lowO]
  generalize r.f = f at f0 f1
  obtain ⟨n, rfl⟩ := Int.eq_ofNat_of_zero_le f0
  have hn : n < 65536 := by omega
  have e1 : andNotW (n : Int) 1 = ((n &&& 65534 : Nat) : Int) := u16_andNot_nat n 1 hn (by decide)
  have l1 : n &&& 65534 < 65536 := Nat.lt_of_le_of_lt Nat.and_le_right (by decide)
  rw [e1]
  cases b
  · have e2 : andNotW ((n &&& 65534 : Nat) : Int) 2048 = (((n &&& 65534) &&& 63487 : Nat) : Int) := u16_andNot_nat _ 2048 l1 (by decide)
    have l2 : (n &&& 65534) &&& 63487 < 65536 := Nat.lt_of_le_of_lt Nat.and_le_right (by decide)
    have e3 : andW (((n &&& 65534) &&& 63487 : Nat) : Int) 1 = ((((n &&& 65534) &&& 63487) &&& 1 : Nat) : Int) := u16_and_nat _ 1 l2 (by decide)
    have e4 : andW (((n &&& 65534) &&& 63487 : Nat) : Int) 2048 = ((((n &&& 65534) &&& 63487) &&& 2048 : Nat) : Int) := u16_and_nat _ 2048 l2 (by decide)
    simp only [Bool.false_eq_true, if_false]
    rw [e2, e3, e4, Nat.and_assoc, Nat.and_assoc, Nat.and_assoc, show 65534 &&& (63487 &&& 1) = 0 from rfl, show 63487 &&& 2048 = 0 from rfl]
    simp [ifI]
  · have e2 : orW ((n &&& 65534 : Nat) : Int) 1 = (((n &&& 65534) ||| 1 : Nat) : Int) := u16_or_nat _ 1 l1 (by decide)
    have l2 : (n &&& 65534) ||| 1 < 65536 := Nat.or_lt_two_pow (n := 16) l1 (by decide)
    have e3 : andNotW (((n &&& 65534) ||| 1 : Nat) : Int) 2048 = ((((n &&& 65534) ||| 1) &&& 63487 : Nat) : Int) := u16_andNot_nat _ 2048 l2 (by decide)
    have l3 : ((n &&& 65534) ||| 1) &&& 63487 < 65536 := Nat.lt_of_le_of_lt Nat.and_le_right (by decide)
    have e4 : orW ((((n &&& 65534) ||| 1) &&& 63487 : Nat) : Int) 2048 = (((((n &&& 65534) ||| 1) &&& 63487) ||| 2048 : Nat) : Int) := u16_or_nat _ 2048 l3 (by decide)
    have l4 : (((n &&& 65534) ||| 1) &&& 63487) ||| 2048 < 65536 := Nat.or_lt_two_pow (n := 16) l3 (by decide)
    have e5 : andW (((((n &&& 65534) ||| 1) &&& 63487) ||| 2048 : Nat) : Int) 1 = ((((((n &&& 65534) ||| 1) &&& 63487) ||| 2048) &&& 1 : Nat) : Int) := u16_and_nat _ 1 l4 (by decide)
    have e6 : andW (((((n &&& 65534) ||| 1) &&& 63487) ||| 2048 : Nat) : Int) 2048 = ((((((n &&& 65534) ||| 1) &&& 63487) ||| 2048) &&& 2048 : Nat) : Int) := u16_and_nat _ 2048 l4 (by decide)
    simp only [if_true]
    rw [e2, e3, e4, e5, e6]
    simp only [Nat.and_or_distrib_right, Nat.and_assoc]
    rw [show 65534 &&& (63487 &&& 1) = 0 from rfl, show 65534 &&& (63487 &&& 2048) = 0 from rfl]
    simp [ifI]
end Go.Proofs.YtcglkefaopgjeaaGreatDoor

/- hansomlaw16: only: walk. -/
namespace Go.Proofs.YtcglkefaopgjeaaGreatDoor
set_option linter.unusedSimpArgs false
set_option linter.unusedVariables false
open Go.RowKit

/-- What only has while it looks. -/
abbrev zI : Inst := ⟨false, 0, 0, 0, 0, 0, 0, 0, 0, 0⟩
structure LB (w wr : World) (x : Inst) : Prop where
  b : Below w.heap.size w wr
  x : Row wr w.heap.size x.cells 30
  i : Row wr (w.heap.size + 1) zI.cells 30
  r : Row wr (w.heap.size + 1 + 1) #[.int .i64 0, .int .i64 0, .int .i64 0, .bool false] 47
theorem LB.on {w wr wy : World} {x : Inst} (h : LB w wr x) (hb : Below wr.heap.size wr wy) : LB w wy x := ⟨h.b.trans (hb.mono h.b.size), Below.row hb h.x h.x.lt, Below.row hb h.i h.i.lt, Below.row hb h.r h.r.lt⟩
theorem LB.alloc {w wr : World} {x : Inst} (h : LB w wr x) (o : Obj) : LB w (wr.alloc o) x := h.on ((Below.refl _ _).alloc (Nat.le_refl _) _)
theorem LB.drew {w wr : World} {x : Inst} (h : LB w wr x) : LB w wr.drew x := h.on (Below.refl _ _).drew
theorem LB.setNew {w wr : World} {x : Inst} (h : LB w wr x) {p : Addr} (hp : w.heap.size + 1 + 1 < p.block) (v : Value) : LB w (wr.setCell p v) x :=
  ⟨h.b.setCell (by omega) v, h.x.setCell_other _ _ (by omega), h.i.setCell_other _ _ (by omega), h.r.setCell_other _ _ (by omega)⟩
theorem lb_new (w : World) (x : Inst) : LB w (((w.alloc (.cells x.cells 30)).alloc (.cells zI.cells 30)).alloc (.cells #[.int .i64 0, .int .i64 0, .int .i64 0, .bool false] 47)) x :=
  ⟨(((Below.refl w.heap.size w).alloc (Nat.le_refl _) _).alloc (by simp) _).alloc (by simp <;> omega) _, ((Row.new w _ _).alloc _).alloc _, (Row.new' (by simp)).alloc _, Row.new' (by simp)⟩
theorem results_only (tmps : Array Value) (w : World) (a b : Nat) (i : Inst) (r : IRow) (h6 : tmps.getD 6 undef = .pointer (some ⟨a, 0, none⟩)) (h7 : tmps.getD 7 undef = .pointer (some ⟨b, 0, none⟩)) (h8 : tmps.getD 8 undef = .bool true)
    (hi : Row w a i.cells 30) (hr : Row w b (rowC r) 47) : (results (Tryz.f20) tmps).run Tryz.prog w = .ok (.tuple #[i.val, r.val, .bool true]) w := by
  have g6 : tmps[6]?.getD undef = .pointer (some ⟨a, 0, none⟩) := by simpa using h6
  have g7 : tmps[7]?.getD undef = .pointer (some ⟨b, 0, none⟩) := by simpa using h7
  have g8 : tmps[8]?.getD undef = .bool true := by simpa using h8
  have li := run_loadVar_row (P := Tryz.prog) w a 30 30 i.cells (0, 0) _ hi Tryz.underlying30 rfl (by kernel_rfl)
  have lr := run_loadVar_row (P := Tryz.prog) w b 47 47 (rowC r) (0, 0) _ hr Tryz.underlying47 rfl (by kernel_rfl)
  simp [results, Tryz.results20, g6, g7, g8, asAddr, li, lr]
def manyOf (op : Int) : Nat := if grpOf op then 8 else 1
abbrev rowG (o : Option IRow) : IRow := o.getD ⟨0, 0, 0, false⟩
theorem rowV_G (o : Option IRow) : rowV o = .tuple #[(rowG o).val, .bool o.isSome] := by cases o <;> rfl
/-- What only finds. -/
def Found (lo hi : Int) (w : World) (e : Ending) (w' : World) : Prop :=
  ∃ i : Inst, ∃ r : IRow, i.good ∧ instRow i.op i.reg = some r ∧ lo ≤ r.name ∧ r.name ≤ hi ∧ e = .returned (.tuple #[i.val, r.val, .bool true]) ∧ Below w.heap.size w w'

theorem LB.set10 {w wr : World} {x : Inst} (h : LB w wr x) {B : Nat} (hB : w.heap.size + 1 + 1 < B) (j : Inst) :
    LB w ((((((((((wr.setCell ⟨B, 0, none⟩ (.bool j.lock)).setCell ⟨B, 1, none⟩ (.int .i64 j.rep)).setCell ⟨B, 2, none⟩ (.int .i64 j.seg)).setCell ⟨B, 3, none⟩ (.int .u8 j.op)).setCell ⟨B, 4, none⟩ (.int .i64 j.mod)).setCell ⟨B, 5, none⟩ (.int .i64 j.reg)).setCell ⟨B, 6, none⟩ (.int .i64 j.rm)).setCell ⟨B, 7, none⟩ (.int .u16 j.disp)).setCell ⟨B, 8, none⟩ (.int .u16 j.imm)).setCell ⟨B, 9, none⟩ (.int .u16 j.sel)) x :=
  (((((((((h.setNew (p := ⟨B, 0, none⟩) hB _).setNew (p := ⟨B, 1, none⟩) hB _).setNew (p := ⟨B, 2, none⟩) hB _).setNew (p := ⟨B, 3, none⟩) hB _).setNew (p := ⟨B, 4, none⟩) hB _).setNew (p := ⟨B, 5, none⟩) hB _).setNew (p := ⟨B, 6, none⟩) hB _).setNew (p := ⟨B, 7, none⟩) hB _).setNew (p := ⟨B, 8, none⟩) hB _).setNew (p := ⟨B, 9, none⟩) hB _
theorem row4 {w : World} {b : Nat} {r0 : IRow} (r : IRow) (h : Row w b (rowC r0) 47) :
    Row ((((w.setCell ⟨b, 0, none⟩ (.int .i64 r.name)).setCell ⟨b, 1, none⟩ (.int .i64 r.a)).setCell ⟨b, 2, none⟩ (.int .i64 r.b)).setCell ⟨b, 3, none⟩ (.bool r.mod)) b (rowC r) 47 := by
  simpa using (((h.setCell 0 (.int .i64 r.name)).setCell 1 (.int .i64 r.a)).setCell 2 (.int .i64 r.b)).setCell 3 (.bool r.mod)
theorem only_next {x : Inst} {lo hi : Int} {K N k n : Nat} (hnk : k = K → n ≤ N) (hok : tryOk x lo hi K N = true) (hF : tryOk x lo hi k n = false) : k = K → n + 1 ≤ N := by
  intro e
  have h1 := hnk e
  rcases Nat.lt_or_ge n N with h | h
  · omega
  · have h2 : n = N := by omega
    rw [e, h2, hok] at hF
    cases hF

set_option maxRecDepth 100000 in
set_option maxHeartbeats 6400000 in
theorem only_any (x : Inst) (hx : x.kinds) (lo hi : Int) (hlo : 1 ≤ lo) (K N : Nat) (hK : K < 256) (hN : N < manyOf (tryOp x K)) (hok : tryOk x lo hi K N = true) (w : World) :
    Calls Tryz.prog 20 #[x.val, .int .i64 lo, .int .i64 hi] w (Found lo hi w) := by
  have HL0 := Lib.hid (lb_new w x)
  have HX := Lib.hid hx
  have HOK := Lib.hid hok
  have HN := Lib.hid hN
  clear hx hok hN
  go_enter Tryz.func20, Tryz.ntmps20
  go_wp2_with fail
  go_loopw [9] (fun s9 wr => ∃ k : Nat, k ≤ K ∧ s9 = .int .i64 k ∧ LB w wr x) (fun s9 _ => 256 - (intOf s9).toNat)
  case atStart => exact ⟨0, by omega, rfl, HL0.out⟩
  case round =>
    obtain ⟨k, hk, rfl, hl⟩ := hrel
    have HL := Lib.hid hl
    have xx := hl.x.cell
    have lx := hl.x.lt
    have c1 : ((k : Nat) : Int) < 256 := by omega
    obtain ⟨o, ho⟩ : ∃ o : Nat, tryOp x k = o := ⟨(tryOp x k).toNat, by unfold tryOp; omega⟩
    have ho1 : o < 256 := by unfold tryOp at ho; omega
    have HO := Lib.hid ho
    clear hl
    go_wp2_with fail
    rw [show (x.op + (k : Int)) % 256 = (o : Int) from HO.out]
    refine (grouped_any4 o ho1 _).mono ?_
    have HM := Lib.hid (show manyOf (o : Int) = if grpOf o then 8 else 1 from rfl)
    generalize grpOf o = gb at HM ⊢
    rintro e w' ⟨rfl, rfl⟩; dsimp only
    clear xx lx
    obtain ⟨wo, hwo⟩ : ∃ wo : World, wo = wr := ⟨_, rfl⟩
    subst hwo
    cases gb with
    | false =>
      have HK := Lib.hid (show k = K → N < 1 from fun e => by have := HN.out; rw [← e, HO.out, HM.out] at this; exact this)
      clear HM
      go_wp2_with fail
      go_loopw [12] (fun s12 wr => ∃ n : Nat, n ≤ 1 ∧ (k = K → n ≤ N) ∧ s12 = .int .i64 n ∧ LB w wr x) (fun s12 _ => 1 - (intOf s12).toNat)
      case atStart => exact ⟨0, by omega, fun _ => by omega, rfl, HL.out⟩
      case round =>
        obtain ⟨n, hn, hnk, rfl, hl⟩ := hrel
        have HL2 := Lib.hid hl
        have xx := hl.x.cell
        have lx := hl.x.lt
        have lr := hl.r.lt
        clear hl
        by_cases hlt : n < 1
        · have c2 : ((n : Nat) : Int) < 1 := by omega
          have a7 : bits .and .i64 x.reg 7 = x.reg % 8 := i64_and7 _
          have b7 : bits .and .i64 (x.reg % 8 + n) 7 = tryReg x n := i64_and7 _
          have hJ : Inst.kinds ⟨x.lock, x.rep, x.seg, tryOp x k, x.mod, tryReg x n, x.rm, x.disp, x.imm, x.sel⟩ := ⟨by rw [HO.out]; dsimp only; omega, HX.out.disp, HX.out.imm, HX.out.sel⟩
          have KN := Lib.hid (fun w => near_any5 _ hJ w)
          have HG := Lib.hid (near_good _ hJ)
          have HT := Lib.hid (show tryOk x lo hi k n = (decide (lo ≤ (rowG (instRow (tryI x k n).op (tryI x k n).reg)).name) && decide ((rowG (instRow (tryI x k n).op (tryI x k n).reg)).name ≤ hi) && ((tryI x k n).op == tryOp x k)) from rfl)
          have e0 : nearI ⟨x.lock, x.rep, x.seg, tryOp x k, x.mod, tryReg x n, x.rm, x.disp, x.imm, x.sel⟩ = tryI x k n := rfl
          rw [e0] at KN HG
          rw [HO.out] at KN HT
          clear e0 hJ
          obtain ⟨g, hg⟩ : ∃ g, tryReg x n = g := ⟨_, rfl⟩
          rw [hg] at b7 KN
          generalize tryI x k n = j at KN HG HT
          have KR := Lib.hid (fun w => row_any5 j w HG.out.wf.op.1 HG.out.wf.op.2 HG.out.wf.reg.1 HG.out.wf.reg.2)
          have HRS := Lib.hid (show ∀ hlo2 : 1 ≤ (rowG (instRow j.op j.reg)).name, instRow j.op j.reg = some (rowG (instRow j.op j.reg)) from fun h1 => by cases hh : instRow j.op j.reg with
            | none => rw [hh] at h1; exact absurd h1 (by decide)
            | some r => rfl)
          simp only [rowV_G] at KR
          generalize (instRow j.op j.reg).isSome = sb at KR
          obtain ⟨ir, hir⟩ : ∃ ir, instRow j.op j.reg = ir := ⟨_, rfl⟩
          rw [hir] at KR HT HRS
          have HIR := Lib.hid hir
          clear hir
          obtain ⟨R, hR⟩ : ∃ R, rowG ir = R := ⟨_, rfl⟩
          rw [hR] at KR HT HRS
          clear hR
          obtain ⟨rn, ra, rb, rm⟩ := R
          dsimp only at HT HRS
          have HB := Lib.hid lr
          have n1 : ¬ wr.heap.size = w.heap.size := by omega
          have n2 : ¬ wr.heap.size = w.heap.size + 1 := by omega
          have n3 : ¬ wr.heap.size = w.heap.size + 1 + 1 := by omega
          go_upto_region 11 with fail
          go_region
          all_goals
            go_upto_region 12 with fail
            have hl3 := (HL2.out.alloc (.cells #[.bool x.lock, .int .i64 x.rep, .int .i64 x.seg, .int .u8 o, .int .i64 x.mod, .int .i64 g, .int .i64 x.rm, .int .u16 x.disp, .int .u16 x.imm, .int .u16 x.sel] 30)).drew
            have hr3 := (Row.new wr (Inst.cells ⟨x.lock, x.rep, x.seg, o, x.mod, g, x.rm, x.disp, x.imm, x.sel⟩) 30).drew
            clear xx lx lr n1 n2 n3
            generalize hB9 : wr.heap.size = B at HB hr3 ⊢
            generalize (wr.alloc (.cells #[.bool x.lock, .int .i64 x.rep, .int .i64 x.seg, .int .u8 o, .int .i64 x.mod, .int .i64 g, .int .i64 x.rm, .int .u16 x.disp, .int .u16 x.imm, .int .u16 x.sel] 30)).drew = w3 at hl3 hr3 ⊢
            have HL3 := Lib.hid hl3
            have HR3 := Lib.hid hr3
            have x3 := hr3.cell
            clear hl3 hr3 hB9
            go_wp2_with fail
            refine (KN.out _).mono ?_
            rintro e w4 ⟨rfl, hb⟩; dsimp only
            have HL4 := Lib.hid (HL3.out.on hb)
            have HR4 := Lib.hid (Below.row hb HR3.out HR3.out.lt)
            clear x3 hb
            have x4 := HR4.out.cell
            have f4 := HR4.out.frozen
            have l4 := HR4.out.lt
            go_upto_region 13 with fail
            have HL5 := Lib.hid (HL4.out.set10 HB.out j)
            have HR5 := Lib.hid (row_inst j HR4.out)
            clear x4 f4 l4
            generalize ((((((((((w4.setCell ⟨B, 0, none⟩ (.bool j.lock)).setCell ⟨B, 1, none⟩ (.int .i64 j.rep)).setCell ⟨B, 2, none⟩ (.int .i64 j.seg)).setCell ⟨B, 3, none⟩ (.int .u8 j.op)).setCell ⟨B, 4, none⟩ (.int .i64 j.mod)).setCell ⟨B, 5, none⟩ (.int .i64 j.reg)).setCell ⟨B, 6, none⟩ (.int .i64 j.rm)).setCell ⟨B, 7, none⟩ (.int .u16 j.disp)).setCell ⟨B, 8, none⟩ (.int .u16 j.imm)).setCell ⟨B, 9, none⟩ (.int .u16 j.sel)) = w5 at HL5 HR5 ⊢
            have x5 := HR5.out.cell
            go_wp2_with fail
            refine (KR.out _).mono ?_
            rintro e w6 ⟨rfl, hb⟩; dsimp only
            have HL6 := Lib.hid ((HL5.out.on hb).alloc (.cells #[.int .i64 rn, .int .i64 ra, .int .i64 rb, .bool rm] 47))
            have HR6 := Lib.hid ((Below.row hb HR5.out HR5.out.lt).alloc (.cells #[.int .i64 rn, .int .i64 ra, .int .i64 rb, .bool rm] 47))
            have HS6 := Lib.hid (Row.new w6 #[.int .i64 rn, .int .i64 ra, .int .i64 rb, .bool rm] 47)
            have HB7 := Lib.hid (HL5.out.on hb).r.lt
            clear x5 hb
            go_upto_region 14 with fail
            generalize hw7 : w6.alloc (.cells #[.int .i64 rn, .int .i64 ra, .int .i64 rb, .bool rm] 47) = w7 at HL6 HR6 HS6 ⊢
            generalize w6.heap.size = B7 at HS6 HB7 ⊢
            clear hw7
            have x6 := HR6.out.cell
            have y6 := HS6.out.cell
            have ly := HS6.out.lt
            have lx := HR6.out.lt
            by_cases t1 : lo ≤ rn
            · by_cases t2 : rn ≤ hi
              · by_cases t3 : j.op = o
                · have t3b : ((o : Int) == j.op) = true := by simp [t3]
                  have T1 := Lib.hid t1
                  have T2 := Lib.hid t2
                  clear t3
                  have ci6 := HL6.out.i.cell
                  have cr6 := HL6.out.r.cell
                  have i6 := HL6.out.i.frozen
                  have j6 := HL6.out.r.frozen
                  have i7 := HL6.out.i.lt
                  have j7 := HL6.out.r.lt
                  have p1 : ¬ B = w.heap.size + 1 := by have := HB.out; omega
                  have p2 : ¬ w.heap.size + 1 = B := by have := HB.out; omega
                  have p3 : ¬ B = w.heap.size + 1 + 1 := by have := HB.out; omega
                  have p4 : ¬ w.heap.size + 1 + 1 = B := by have := HB.out; omega
                  have p5 : ¬ B7 = w.heap.size + 1 := by have := HB7.out; omega
                  have p6 : ¬ w.heap.size + 1 = B7 := by have := HB7.out; omega
                  have p7 : ¬ B7 = w.heap.size + 1 + 1 := by have := HB7.out; omega
                  have p8 : ¬ w.heap.size + 1 + 1 = B7 := by have := HB7.out; omega
                  go_upto_region 15 with fail
                  go_region
                  all_goals
                    go_wp2_with fail
                    refine bodyPost_ret (results_only _ _ _ _ j ⟨rn, ra, rb, rm⟩ rfl rfl rfl ?_ ?_) rfl ?_
                    · refine Row.drew ?_
                      repeat (refine Row.setCell_other ?_ _ _ (by dsimp only; omega))
                      refine row_inst (c := zI) j ?_
                      repeat (refine Row.setCell_other ?_ _ _ (by dsimp only; omega))
                      exact HL6.out.i
                    · refine Row.drew ?_
                      repeat (refine Row.setCell_other ?_ _ _ (by dsimp only; omega))
                      refine row4 (r0 := ⟨0, 0, 0, false⟩) ⟨rn, ra, rb, rm⟩ ?_
                      repeat (refine Row.setCell_other ?_ _ _ (by dsimp only; omega))
                      exact HL6.out.r
                    · refine ⟨j, ⟨rn, ra, rb, rm⟩, HG.out, by rw [HIR.out]; exact HRS.out (by have := T1.out; omega), T1.out, T2.out, rfl, ?_⟩
                      refine Below.drew ?_
                      repeat (with_reducible refine Below.setCell ?_ (by dsimp only; omega) _)
                      exact HL6.out.b
                · have hF : tryOk x lo hi k n = false := by rw [HT.out]; simp [t3]
                  have HC := Lib.hid (only_next hnk HOK.out hF)
                  have t3b : ((o : Int) == j.op) = false := by simp; exact fun e => t3 e.symm
                  clear HT hF t3
                  go_wp2_with fail
                  exact ⟨⟨n + 1, by omega, HC.out, by go_num, HL6.out⟩, by simp [intOf]; omega⟩
              · have hF : tryOk x lo hi k n = false := by rw [HT.out]; simp [t2]
                have HC := Lib.hid (only_next hnk HOK.out hF)
                clear HT hF
                go_wp2_with fail
                exact ⟨⟨n + 1, by omega, HC.out, by go_num, HL6.out⟩, by simp [intOf]; omega⟩
            · have hF : tryOk x lo hi k n = false := by rw [HT.out]; simp [t1]
              have HC := Lib.hid (only_next hnk HOK.out hF)
              clear HT hF
              go_wp2_with fail
              exact ⟨⟨n + 1, by omega, HC.out, by go_num, HL6.out⟩, by simp [intOf]; omega⟩
        · have c2 : ¬ ((n : Nat) : Int) < 1 := by omega
          have hk2 : k + 1 ≤ K := by
            rcases Nat.lt_or_ge k K with h | h
            · omega
            · have e : k = K := by omega
              have := hnk e
              have := HK.out e
              omega
          go_wp2_with fail
          exact ⟨⟨k + 1, hk2, by go_num, HL2.out⟩, by simp [intOf]; omega⟩
    | true =>
      have HK := Lib.hid (show k = K → N < 8 from fun e => by have := HN.out; rw [← e, HO.out, HM.out] at this; exact this)
      clear HM
      go_wp2_with fail
      go_loopw [12] (fun s12 wr => ∃ n : Nat, n ≤ 8 ∧ (k = K → n ≤ N) ∧ s12 = .int .i64 n ∧ LB w wr x) (fun s12 _ => 8 - (intOf s12).toNat)
      case atStart => exact ⟨0, by omega, fun _ => by omega, rfl, HL.out⟩
      case round =>
        obtain ⟨n, hn, hnk, rfl, hl⟩ := hrel
        have HL2 := Lib.hid hl
        have xx := hl.x.cell
        have lx := hl.x.lt
        have lr := hl.r.lt
        clear hl
        by_cases hlt : n < 8
        · have c2 : ((n : Nat) : Int) < 8 := by omega
          have a7 : bits .and .i64 x.reg 7 = x.reg % 8 := i64_and7 _
          have b7 : bits .and .i64 (x.reg % 8 + n) 7 = tryReg x n := i64_and7 _
          have hJ : Inst.kinds ⟨x.lock, x.rep, x.seg, tryOp x k, x.mod, tryReg x n, x.rm, x.disp, x.imm, x.sel⟩ := ⟨by rw [HO.out]; dsimp only; omega, HX.out.disp, HX.out.imm, HX.out.sel⟩
          have KN := Lib.hid (fun w => near_any5 _ hJ w)
          have HG := Lib.hid (near_good _ hJ)
          have HT := Lib.hid (show tryOk x lo hi k n = (decide (lo ≤ (rowG (instRow (tryI x k n).op (tryI x k n).reg)).name) && decide ((rowG (instRow (tryI x k n).op (tryI x k n).reg)).name ≤ hi) && ((tryI x k n).op == tryOp x k)) from rfl)
          have e0 : nearI ⟨x.lock, x.rep, x.seg, tryOp x k, x.mod, tryReg x n, x.rm, x.disp, x.imm, x.sel⟩ = tryI x k n := rfl
          rw [e0] at KN HG
          rw [HO.out] at KN HT
          clear e0 hJ
          obtain ⟨g, hg⟩ : ∃ g, tryReg x n = g := ⟨_, rfl⟩
          rw [hg] at b7 KN
          generalize tryI x k n = j at KN HG HT
          have KR := Lib.hid (fun w => row_any5 j w HG.out.wf.op.1 HG.out.wf.op.2 HG.out.wf.reg.1 HG.out.wf.reg.2)
          have HRS := Lib.hid (show ∀ hlo2 : 1 ≤ (rowG (instRow j.op j.reg)).name, instRow j.op j.reg = some (rowG (instRow j.op j.reg)) from fun h1 => by cases hh : instRow j.op j.reg with
            | none => rw [hh] at h1; exact absurd h1 (by decide)
            | some r => rfl)
          simp only [rowV_G] at KR
          generalize (instRow j.op j.reg).isSome = sb at KR
          obtain ⟨ir, hir⟩ : ∃ ir, instRow j.op j.reg = ir := ⟨_, rfl⟩
          rw [hir] at KR HT HRS
          have HIR := Lib.hid hir
          clear hir
          obtain ⟨R, hR⟩ : ∃ R, rowG ir = R := ⟨_, rfl⟩
          rw [hR] at KR HT HRS
          clear hR
          obtain ⟨rn, ra, rb, rm⟩ := R
          dsimp only at HT HRS
          have HB := Lib.hid lr
          have n1 : ¬ wr.heap.size = w.heap.size := by omega
          have n2 : ¬ wr.heap.size = w.heap.size + 1 := by omega
          have n3 : ¬ wr.heap.size = w.heap.size + 1 + 1 := by omega
          go_upto_region 11 with fail
          go_region
          all_goals
            go_upto_region 12 with fail
            have hl3 := (HL2.out.alloc (.cells #[.bool x.lock, .int .i64 x.rep, .int .i64 x.seg, .int .u8 o, .int .i64 x.mod, .int .i64 g, .int .i64 x.rm, .int .u16 x.disp, .int .u16 x.imm, .int .u16 x.sel] 30)).drew
            have hr3 := (Row.new wr (Inst.cells ⟨x.lock, x.rep, x.seg, o, x.mod, g, x.rm, x.disp, x.imm, x.sel⟩) 30).drew
            clear xx lx lr n1 n2 n3
            generalize hB9 : wr.heap.size = B at HB hr3 ⊢
            generalize (wr.alloc (.cells #[.bool x.lock, .int .i64 x.rep, .int .i64 x.seg, .int .u8 o, .int .i64 x.mod, .int .i64 g, .int .i64 x.rm, .int .u16 x.disp, .int .u16 x.imm, .int .u16 x.sel] 30)).drew = w3 at hl3 hr3 ⊢
            have HL3 := Lib.hid hl3
            have HR3 := Lib.hid hr3
            have x3 := hr3.cell
            clear hl3 hr3 hB9
            go_wp2_with fail
            refine (KN.out _).mono ?_
            rintro e w4 ⟨rfl, hb⟩; dsimp only
            have HL4 := Lib.hid (HL3.out.on hb)
            have HR4 := Lib.hid (Below.row hb HR3.out HR3.out.lt)
            clear x3 hb
            have x4 := HR4.out.cell
            have f4 := HR4.out.frozen
            have l4 := HR4.out.lt
            go_upto_region 13 with fail
            have HL5 := Lib.hid (HL4.out.set10 HB.out j)
            have HR5 := Lib.hid (row_inst j HR4.out)
            clear x4 f4 l4
            generalize ((((((((((w4.setCell ⟨B, 0, none⟩ (.bool j.lock)).setCell ⟨B, 1, none⟩ (.int .i64 j.rep)).setCell ⟨B, 2, none⟩ (.int .i64 j.seg)).setCell ⟨B, 3, none⟩ (.int .u8 j.op)).setCell ⟨B, 4, none⟩ (.int .i64 j.mod)).setCell ⟨B, 5, none⟩ (.int .i64 j.reg)).setCell ⟨B, 6, none⟩ (.int .i64 j.rm)).setCell ⟨B, 7, none⟩ (.int .u16 j.disp)).setCell ⟨B, 8, none⟩ (.int .u16 j.imm)).setCell ⟨B, 9, none⟩ (.int .u16 j.sel)) = w5 at HL5 HR5 ⊢
            have x5 := HR5.out.cell
            go_wp2_with fail
            refine (KR.out _).mono ?_
            rintro e w6 ⟨rfl, hb⟩; dsimp only
            have HL6 := Lib.hid ((HL5.out.on hb).alloc (.cells #[.int .i64 rn, .int .i64 ra, .int .i64 rb, .bool rm] 47))
            have HR6 := Lib.hid ((Below.row hb HR5.out HR5.out.lt).alloc (.cells #[.int .i64 rn, .int .i64 ra, .int .i64 rb, .bool rm] 47))
            have HS6 := Lib.hid (Row.new w6 #[.int .i64 rn, .int .i64 ra, .int .i64 rb, .bool rm] 47)
            have HB7 := Lib.hid (HL5.out.on hb).r.lt
            clear x5 hb
            go_upto_region 14 with fail
            generalize hw7 : w6.alloc (.cells #[.int .i64 rn, .int .i64 ra, .int .i64 rb, .bool rm] 47) = w7 at HL6 HR6 HS6 ⊢
            generalize w6.heap.size = B7 at HS6 HB7 ⊢
            clear hw7
            have x6 := HR6.out.cell
            have y6 := HS6.out.cell
            have ly := HS6.out.lt
            have lx := HR6.out.lt
            by_cases t1 : lo ≤ rn
            · by_cases t2 : rn ≤ hi
              · by_cases t3 : j.op = o
                · have t3b : ((o : Int) == j.op) = true := by simp [t3]
                  have T1 := Lib.hid t1
                  have T2 := Lib.hid t2
                  clear t3
                  have ci6 := HL6.out.i.cell
                  have cr6 := HL6.out.r.cell
                  have i6 := HL6.out.i.frozen
                  have j6 := HL6.out.r.frozen
                  have i7 := HL6.out.i.lt
                  have j7 := HL6.out.r.lt
                  have p1 : ¬ B = w.heap.size + 1 := by have := HB.out; omega
                  have p2 : ¬ w.heap.size + 1 = B := by have := HB.out; omega
                  have p3 : ¬ B = w.heap.size + 1 + 1 := by have := HB.out; omega
                  have p4 : ¬ w.heap.size + 1 + 1 = B := by have := HB.out; omega
                  have p5 : ¬ B7 = w.heap.size + 1 := by have := HB7.out; omega
                  have p6 : ¬ w.heap.size + 1 = B7 := by have := HB7.out; omega
                  have p7 : ¬ B7 = w.heap.size + 1 + 1 := by have := HB7.out; omega
                  have p8 : ¬ w.heap.size + 1 + 1 = B7 := by have := HB7.out; omega
                  go_upto_region 15 with fail
                  go_region
                  all_goals
                    go_wp2_with fail
                    refine bodyPost_ret (results_only _ _ _ _ j ⟨rn, ra, rb, rm⟩ rfl rfl rfl ?_ ?_) rfl ?_
                    · refine Row.drew ?_
                      repeat (refine Row.setCell_other ?_ _ _ (by dsimp only; omega))
                      refine row_inst (c := zI) j ?_
                      repeat (refine Row.setCell_other ?_ _ _ (by dsimp only; omega))
                      exact HL6.out.i
                    · refine Row.drew ?_
                      repeat (refine Row.setCell_other ?_ _ _ (by dsimp only; omega))
                      refine row4 (r0 := ⟨0, 0, 0, false⟩) ⟨rn, ra, rb, rm⟩ ?_
                      repeat (refine Row.setCell_other ?_ _ _ (by dsimp only; omega))
                      exact HL6.out.r
                    · refine ⟨j, ⟨rn, ra, rb, rm⟩, HG.out, by rw [HIR.out]; exact HRS.out (by have := T1.out; omega), T1.out, T2.out, rfl, ?_⟩
                      refine Below.drew ?_
                      repeat (with_reducible refine Below.setCell ?_ (by dsimp only; omega) _)
                      exact HL6.out.b
                · have hF : tryOk x lo hi k n = false := by rw [HT.out]; simp [t3]
                  have HC := Lib.hid (only_next hnk HOK.out hF)
                  have t3b : ((o : Int) == j.op) = false := by simp; exact fun e => t3 e.symm
                  clear HT hF t3
                  go_wp2_with fail
                  exact ⟨⟨n + 1, by omega, HC.out, by go_num, HL6.out⟩, by simp [intOf]; omega⟩
              · have hF : tryOk x lo hi k n = false := by rw [HT.out]; simp [t2]
                have HC := Lib.hid (only_next hnk HOK.out hF)
                clear HT hF
                go_wp2_with fail
                exact ⟨⟨n + 1, by omega, HC.out, by go_num, HL6.out⟩, by simp [intOf]; omega⟩
            · have hF : tryOk x lo hi k n = false := by rw [HT.out]; simp [t1]
              have HC := Lib.hid (only_next hnk HOK.out hF)
              clear HT hF
              go_wp2_with fail
              exact ⟨⟨n + 1, by omega, HC.out, by go_num, HL6.out⟩, by simp [intOf]; omega⟩
        · have c2 : ¬ ((n : Nat) : Int) < 8 := by omega
          have hk2 : k + 1 ≤ K := by
            rcases Nat.lt_or_ge k K with h | h
            · omega
            · have e : k = K := by omega
              have := hnk e
              have := HK.out e
              omega
          go_wp2_with fail
          exact ⟨⟨k + 1, hk2, by go_num, HL2.out⟩, by simp [intOf]; omega⟩
end Go.Proofs.YtcglkefaopgjeaaGreatDoor

/- The law CpuFetch. -/
namespace Go.Proofs.YtcglkefaopgjeaaGreatDoor
set_option linter.unusedSimpArgs false
set_option linter.unusedVariables false
open Go.RowKit

/-- An instruction equals itself. -/
theorem eq_I (i : Inst) (w : World) : (Op.equalIn 10000 30 i.val i.val).run Tryz.prog w = .ok true w := by
  have hS : Tryz.prog.underlying 30 = some (.struct (Tryz.prog.fieldsOf 30)) := by kernel_rfl
  rw [show (10000 : Nat) = 9999 + 1 from rfl, run_equalIn_agg w 9999 30 _ _ hS (by kernel_rfl)]
  simp only [Program.fieldsOf, Tryz.underlying30]
  go_simp
/-- What Put comes to. -/
def PutSays : Prop := ∀ (i : Inst), i.good → ∀ w : World, Calls Tryz.prog 15 #[i.val] w fun e w' => ∃ g cap : Nat, e = .returned (.slice (some ⟨g, 0, none⟩) (putL i).length cap) ∧ Below w.heap.size w w' ∧ w.heap.size ≤ g ∧ g < w'.heap.size ∧ ∀ k, k < (putL i).length → w'.cell? ⟨g, k, none⟩ = some (.int .u8 ((putL i).getD k 0))
theorem putL_wf (i : Inst) (hi : i.good) (k : Nat) : 0 ≤ (putL i).getD k 0 ∧ (putL i).getD k 0 ≤ 255 := by
  rw [List.getD_eq_getElem?_getD]
  rcases Nat.lt_or_ge k (putL i).length with h | h
  · rw [List.getElem?_eq_getElem h]
    exact putL_byte i hi _ (List.getElem_mem h)
  · rw [List.getElem?_eq_none h]
    exact ⟨by decide, by decide⟩

set_option maxRecDepth 100000 in
set_option maxHeartbeats 6400000 in
theorem cpuFetch_any (KP : PutSays) (r : Regs) (hr : r.wf) (x : Inst) (hx : x.kinds) (w : World) : Calls Tryz.prog 3 #[r.val, x.val] w fun e w' => e = .returned (.bool true) ∧ Below w.heap.size w w' := by
  have KN := Lib.hid (fun w => near_any5 x hx w)
  have hg := near_good x hx
  generalize nearI x = j at KN hg
  have HG := Lib.hid hg
  have KPJ := Lib.hid (KP j hg)
  have HW := Lib.hid (putL_wf j hg)
  have hlen := putL_le j
  have hpos := putL_pos j
  obtain ⟨L, hL⟩ : ∃ l, putL j = l := ⟨_, rfl⟩
  have HT := Lib.hid (fun (bs : Nat → Int) (h : Reads bs 0 L) => (hL ▸ take_put bs j hg.wf hg.may hg.rep.1 hg.rep.2 (hL ▸ h) : takeF bs = some (j, L.length)))
  rw [hL] at KPJ HW hlen hpos
  clear hg hL KP
  have hrow0 := (Row.new w r.cells 28).alloc (.cells x.cells 30)
  have hb0 := ((Below.refl w.heap.size w).alloc (Nat.le_refl _) (.cells r.cells 28)).alloc (by simp) (.cells x.cells 30)
  have HB0 := Lib.hid hb0
  have HR0 := Lib.hid hrow0
  have HX0 := Lib.hid (Row.new' (w := w.alloc (.cells r.cells 28)) (n := w.heap.size + 1) (cs := x.cells) (t := 30) (by simp))
  clear hb0 hrow0
  have xx := HX0.out.cell
  go_enter Tryz.func3, Tryz.ntmps3
  go_wp2_with fail
  refine (KN.out _).mono ?_
  rintro e w1 ⟨rfl, hb⟩; dsimp only
  have HB1 := Lib.hid ((HB0.out.trans (hb.mono HB0.out.size)).alloc (Nat.le_trans HB0.out.size hb.size) (.cells j.cells 30))
  have HR1 := Lib.hid ((Below.row hb HR0.out HR0.out.lt).alloc (.cells j.cells 30))
  have HJ1 := Lib.hid (Row.new w1 j.cells 30)
  clear hb xx
  go_upto_region 2 with fail
  generalize w1.alloc (.cells j.cells 30) = W1 at HB1 HR1 HJ1 ⊢
  have xj := HJ1.out.cell
  go_wp2_with fail
  refine (KPJ.out _).mono ?_
  rintro e w2 ⟨g, cap, rfl, hb, hg0, hg1, hcells⟩; dsimp only
  have HB2 := Lib.hid (HB1.out.trans (hb.mono HB1.out.size))
  have HR2 := Lib.hid (Below.row hb HR1.out HR1.out.lt)
  have HJ2 := Lib.hid (Below.row hb HJ1.out HJ1.out.lt)
  have KB := Lib.hid (begin_any w2 r hr g cap L hg1 hcells HW.out (by omega))
  clear hb xj hg0 hg1 hcells
  obtain ⟨xc, xf, xr, xs, xl⟩ := HR2.out.sees
  go_wp2_with fail
  refine KB.out.mono ?_
  rintro e w3 ⟨C, lv, rfl, ho, hb2, hn⟩; dsimp only
  have HO1 := Lib.hid ho
  have HB3 := Lib.hid (HB2.out.trans (hb2.mono HB2.out.size))
  have HR3 := Lib.hid (Below.row hb2 HR2.out HR2.out.lt)
  have HJ3 := Lib.hid (Below.row hb2 HJ2.out HJ2.out.lt)
  clear ho hb2 hn xc xf xr xs xl KB
  have hcode : Reads (begun r L).code 0 L := fun k hk => by
    rw [Nat.zero_add]
    exact code_begun r hr.ip.1 hr.ip.2 L k (by omega)
  have KF := Lib.hid (fetch_ok w3 C lv (begun r L) HO1.out j L.length (HT.out _ hcode) (plainB_sane (sane_begun r L) _ _))
  clear hcode
  go_wp2_with fail
  refine KF.out.mono ?_
  rintro e w4 ⟨rfl, hb⟩; dsimp only
  have HO4 := Lib.hid (HO1.out.below hb)
  have HB4 := Lib.hid (HB3.out.trans (hb.mono HB3.out.size))
  have HR4 := Lib.hid (Below.row hb HR3.out HR3.out.lt)
  have HJ4 := Lib.hid (Below.row hb HJ3.out HJ3.out.lt)
  clear hb KF
  go_upto_region 5 with fail
  have HO5 := Lib.hid (((HO4.out.alloc (.cells j.cells 30)).alloc (.cells #[.int .u16 j.imm, .bool false] 24)).alloc (.cells #[.int .u16 j.sel, .bool false] 24))
  have HB5 := Lib.hid (((HB4.out.alloc HB4.out.size (.cells j.cells 30)).alloc (by rw [World.size_alloc]; exact Nat.le_succ_of_le HB4.out.size) (.cells #[.int .u16 j.imm, .bool false] 24)).alloc (by rw [World.size_alloc, World.size_alloc]; exact Nat.le_succ_of_le (Nat.le_succ_of_le HB4.out.size)) (.cells #[.int .u16 j.sel, .bool false] 24))
  have HR5 := Lib.hid (((HR4.out.alloc (.cells j.cells 30)).alloc (.cells #[.int .u16 j.imm, .bool false] 24)).alloc (.cells #[.int .u16 j.sel, .bool false] 24))
  have HJ5 := Lib.hid (((HJ4.out.alloc (.cells j.cells 30)).alloc (.cells #[.int .u16 j.imm, .bool false] 24)).alloc (.cells #[.int .u16 j.sel, .bool false] 24))
  have HY5 := Lib.hid (((Row.new w4 j.cells 30).alloc (.cells #[.int .u16 j.imm, .bool false] 24)).alloc (.cells #[.int .u16 j.sel, .bool false] 24))
  have HT5 := Lib.hid ((Row.new' (w := w4.alloc (.cells j.cells 30)) (n := w4.heap.size + 1) (cs := #[.int .u16 j.imm, .bool false]) (t := 24) (by simp)).alloc (.cells #[.int .u16 j.sel, .bool false] 24))
  have HS5 := Lib.hid (Row.new' (w := (w4.alloc (.cells j.cells 30)).alloc (.cells #[.int .u16 j.imm, .bool false] 24)) (n := w4.heap.size + 1 + 1) (cs := #[.int .u16 j.sel, .bool false]) (t := 24) (by simp))
  generalize ((w4.alloc (.cells j.cells 30)).alloc (.cells #[.int .u16 j.imm, .bool false] 24)).alloc (.cells #[.int .u16 j.sel, .bool false] 24) = w5 at HO5 HB5 HR5 HJ5 HY5 HT5 HS5 ⊢
  have g1 : w5.cell? ⟨C.b, 24, none⟩ = some (.int .u16 r.ip) := (HO5.out.row.cell 24).trans (mcell24 C _)
  have g2 : w5.cell? ⟨w.heap.size, 24, none⟩ = some (.int .u16 r.ip) := HR5.out.cell 24
  refine range_of (w5) ?_; intro S inst ω hin hout
  have r1 := range_cell hin g1
  have r2 := range_cell hin g2
  have r3 := range_row hin HJ5.out
  have r4 := range_row hin HY5.out
  have r5 := range_row hin HT5.out
  have r6 := range_row hin HS5.out
  have k1 := range_call hin hout awake_any
  have k2 := range_calls hin hout (fun w hw => (state_any w C lv _ (HO5.out.below hw)).mono (by rintro e w' ⟨rfl, rfl⟩; exact ⟨rfl, Below.refl _ _⟩))
  rw [show (begun r L).state = 0 from rfl] at k2
  have eqi := eq_I j
  have eqv := eq_V 9998
  clear g1 g2
  refine wp_region_range_lit ω (by kernel_rfl) (by kernel_rfl) (hout _ (Below.refl _ _).drew) ?_
  repeat (go_big_quiet_step (first | (with_reducible exact k1 _) | (with_reducible exact k2 _)))
  refine wpQuiet_nil ?_; intro _ hw'; obtain ⟨nq, rfl⟩ := hw'
  go_wp2_with fail
  go_ret
  exact ⟨rfl, HB5.out.trans ((hin nq).mono HB5.out.size)⟩
end Go.Proofs.YtcglkefaopgjeaaGreatDoor

/- What the law CpuProducts wants of rows, machines and numbers: plain laws. -/
namespace Go.Proofs.YtcglkefaopgjeaaGreatDoor
set_option linter.unusedSimpArgs false
set_option linter.unusedVariables false
open Go.RowKit

def prodOk (r : IRow) : Bool := !(decide (86 ≤ r.name) && decide (r.name ≤ 89)) || (r.a == 1 || r.a == 2)
theorem prod_ok : ∀ op : Fin 256, ∀ reg : Fin 8, (match isaOf (op.val : Nat) (reg.val : Nat) with | none => true | some r => prodOk r) = true := by decide +kernel
theorem prod_row {op reg : Int} {r : IRow} (h0 : 0 ≤ op) (h1 : op ≤ 255) (g0 : 0 ≤ reg) (g1 : reg ≤ 7) (h : instRow op reg = some r) (n0 : 86 ≤ r.name) (n1 : r.name ≤ 89) : r.a = 1 ∨ r.a = 2 := by
  obtain ⟨a, rfl⟩ := Int.eq_ofNat_of_zero_le h0
  obtain ⟨b, rfl⟩ := Int.eq_ofNat_of_zero_le g0
  have := prod_ok ⟨a, by omega⟩ ⟨b, by omega⟩
  rw [show ((⟨a, by omega⟩ : Fin 256).val) = a from rfl, show ((⟨b, by omega⟩ : Fin 8).val) = b from rfl, (instRow_some h).2] at this
  simp only [prodOk, n0, n1, decide_true, Bool.and_true, Bool.not_true, Bool.false_or, Bool.or_eq_true, beq_iff_eq] at this
  exact this
/-- There is an instruction of these names. -/
theorem prod_there (x : Inst) (hx : x.kinds) : ∃ K N : Nat, K < 256 ∧ N < manyOf (tryOp x K) ∧ tryOk x 86 89 K N = true := by
  refine ⟨(((246 : Nat) - x.op : Int) % 256).toNat, (((4 : Nat) - x.reg % 8 : Int) % 8).toNat, by omega, ?_, ?_⟩
  · rw [tryOp_at x hx.op.1 hx.op.2 246 (by decide), show manyOf ((246 : Nat) : Int) = 8 by decide]
    omega
  · exact try_row x 86 89 _ _ 246 4 (tryOp_at x hx.op.1 hx.op.2 246 (by decide)) (tryReg_at x 4 (by decide)).symm ⟨86, 1, 0, true⟩ (by decide) (fun h => by cases h) (by decide) (by decide) (by decide) (by decide) (by decide)
/-- A byte that is read is a byte. -/
theorem getV_byte {w : World} {C : Phys} {lv : Value} {m : Mach} (h : Own w C lv m) (i : Inst) (t : V) : 0 ≤ (m.getV i 1 t).v ∧ (m.getV i 1 t).v ≤ 255 := by
  unfold Mach.getV
  rw [if_pos rfl]
  split
  · exact Regs.byte_wf h.wf.r _
  · exact h.mem.wf _
theorem reps_prod (n : Int) (h0 : 86 ≤ n) (h1 : n ≤ 89) : repsOf n = 0 ∧ isFlow n = false := by
  have hc : n = 86 ∨ n = 87 ∨ n = 88 ∨ n = 89 := by omega
  rcases hc with rfl | rfl | rfl | rfl <;> exact ⟨by decide, by decide⟩
end Go.Proofs.YtcglkefaopgjeaaGreatDoor

/- The step of a product or a division in what begin makes; what the law carries: plain laws and one step. -/
namespace Go.Proofs.YtcglkefaopgjeaaGreatDoor
set_option linter.unusedSimpArgs false
set_option linter.unusedVariables false
open Go.RowKit

/-- The machine behind a product or a division. -/
def prodM (m : Mach) (name v : Int) (wide : Bool) : Mach := if name = 86 ∨ name = 87 then m.mulM name v wide else m.divM name v wide
/-- So many bytes at IP are the instruction. -/
theorem take_begun (r : Regs) (hr : r.wf) (i : Inst) (hg : i.good) (L : List Int) (hL : putL i = L) : takeF (begun r L).code = some (i, L.length) := by
  have hlen := putL_le i
  have h : Reads (begun r L).code 0 L := fun k hk => by
    rw [Nat.zero_add]
    exact code_begun r hr.ip.1 hr.ip.2 L k (by rw [← hL] at hk; omega)
  rw [← hL] at h ⊢
  exact take_put _ i hg.wf hg.may hg.rep.1 hg.rep.2 h
theorem prod_step (r : Regs) (hr : r.wf) (i : Inst) (hg : i.good) (L : List Int) (hL : putL i = L) (row : IRow) (hrow : instRow i.op i.reg = some row) (n0 : 86 ≤ row.name) (n1 : row.name ≤ 89) (C : Phys) (T : TypeId) (w : World) (lv : Value)
    (h : Own w C lv (begun r L)) (hb : Box C lv w 0 basesC T) :
    Calls Tryz.prog 25 #[.pointer (some ⟨C.b, 0, none⟩)] w fun e w' => e = .returned (.bool true) ∧ After C lv w (prodM ((begun r L).on L.length) row.name ((begun r L).getV i row.a ⟨i.imm, false⟩).v (wideB row.a)) w' := by
  have hlen := putL_le i
  have hra := prod_row hg.wf.op.1 hg.wf.op.2 hg.wf.reg.1 hg.wf.reg.2 hrow n0 n1
  have hrp := reps_prod row.name n0 n1
  have E := (easy_begun r L).on L.length
  refine step_anyG w C lv _ _ h T hb rfl i L.length (take_begun r hr i hg L hL) (plainB_sane (sane_begun r L) _ _) (by rw [← hL]; omega) row hrow hg.wf hrp.1 hrp.2 ?_
  intro w lv h hb
  refine do_numbersG w C lv _ _ h T hb i row ⟨i.imm, false⟩ (by omega) ?_
  intro w lv h hb
  have hq : ∀ (p : Mach), p = ((begun r L).on L.length) → (p.getM i row.a).plain (p.getV i row.a ⟨i.imm, false⟩) = p := by
    intro p hp
    rw [hp, E.getM, plain_of (E.getT i row.a (by omega) (by omega) _ rfl)]
  have hc : row.name = 86 ∨ row.name = 87 ∨ row.name = 88 ∨ row.name = 89 := by omega
  have hok := getOk_all T i hg.wf row.a (by omega)
  rcases hc with e | e | e | e
  · have := numbers_86 w C lv _ h T hb i row ⟨i.imm, false⟩ ⟨hg.wf.imm.1, hg.wf.imm.2⟩ e (by omega) (by omega) hok
    rw [hq _ rfl] at this
    rw [show prodM ((begun r L).on L.length) row.name ((begun r L).getV i row.a ⟨i.imm, false⟩).v (wideB row.a) = ((begun r L).on L.length).mulM 86 ((begun r L).getV i row.a ⟨i.imm, false⟩).v (wideB row.a) by rw [prodM, if_pos (by omega), e]]
    exact this
  · have := numbers_87 w C lv _ h T hb i row ⟨i.imm, false⟩ ⟨hg.wf.imm.1, hg.wf.imm.2⟩ e (by omega) (by omega) hok
    rw [hq _ rfl] at this
    rw [show prodM ((begun r L).on L.length) row.name ((begun r L).getV i row.a ⟨i.imm, false⟩).v (wideB row.a) = ((begun r L).on L.length).mulM 87 ((begun r L).getV i row.a ⟨i.imm, false⟩).v (wideB row.a) by rw [prodM, if_pos (by omega), e]]
    exact this
  · have := numbers_88 w C lv _ h T hb i row ⟨i.imm, false⟩ ⟨hg.wf.imm.1, hg.wf.imm.2⟩ e (by omega) (by omega) hok
    rw [hq _ rfl] at this
    rw [show prodM ((begun r L).on L.length) row.name ((begun r L).getV i row.a ⟨i.imm, false⟩).v (wideB row.a) = ((begun r L).on L.length).divM 88 ((begun r L).getV i row.a ⟨i.imm, false⟩).v (wideB row.a) by rw [prodM, if_neg (by omega), e]]
    exact this
  · have := numbers_89 w C lv _ h T hb i row ⟨i.imm, false⟩ ⟨hg.wf.imm.1, hg.wf.imm.2⟩ e (by omega) (by omega) hok
    rw [hq _ rfl] at this
    rw [show prodM ((begun r L).on L.length) row.name ((begun r L).getV i row.a ⟨i.imm, false⟩).v (wideB row.a) = ((begun r L).on L.length).divM 89 ((begun r L).getV i row.a ⟨i.imm, false⟩).v (wideB row.a) by rw [prodM, if_neg (by omega), e]]
    exact this

theorem mul_true (r : Regs) (hr : r.wf) (L : List Int) (n : Nat) (v : Int) (v0 : 0 ≤ v) (v1 : v ≤ 65535) :
    (prodM ((begun r L).on n) 86 v true).state = 0 ∧ (prodM ((begun r L).on n) 86 v true).ev = [] ∧ (prodM ((begun r L).on n) 86 v true).r.g0.v = r.g0.v * v % 65536 ∧ (prodM ((begun r L).on n) 86 v true).r.g2.v = r.g0.v * v / 65536 ∧
    andW (prodM ((begun r L).on n) 86 v true).r.f 1 = ifI (r.g0.v * v / 65536 != 0) 1 ∧ andW (prodM ((begun r L).on n) 86 v true).r.f 2048 = ifI (r.g0.v * v / 65536 != 0) 2048 := by
  have hf := two_flags (((begun r L).on n).r.mulR (r.g0.v * v % 65536) (r.g0.v * v / 65536) true) (show 0 ≤ andW r.f 4053 from and_lo _ _) (show andW r.f 4053 ≤ 65535 from and_hi _ _) (r.g0.v * v / 65536 != 0)
  exact ⟨rfl, rfl, rfl, rfl, hf.1, hf.2⟩
theorem mul_false (r : Regs) (hr : r.wf) (L : List Int) (n : Nat) (v : Int) (v0 : 0 ≤ v) (v1 : v ≤ 255) :
    (prodM ((begun r L).on n) 86 v false).state = 0 ∧ (prodM ((begun r L).on n) 86 v false).ev = [] ∧ (prodM ((begun r L).on n) 86 v false).r.g0.v = r.g0.v % 256 * v % 256 + 256 * (r.g0.v % 256 * v / 256 % 256) ∧
    andW (prodM ((begun r L).on n) 86 v false).r.f 1 = ifI (r.g0.v % 256 * v / 256 % 256 != 0) 1 ∧ andW (prodM ((begun r L).on n) 86 v false).r.f 2048 = ifI (r.g0.v % 256 * v / 256 % 256 != 0) 2048 := by
  have e : v % 256 = v := by omega
  have hf := two_flags (((begun r L).on n).r.mulR (r.g0.v % 256 * (v % 256) % 256) (r.g0.v % 256 * (v % 256) / 256 % 256) false) (show 0 ≤ andW r.f 4053 from and_lo _ _) (show andW r.f 4053 ≤ 65535 from and_hi _ _) (r.g0.v % 256 * (v % 256) / 256 % 256 != 0)
  have key : (prodM ((begun r L).on n) 86 v false).state = 0 ∧ (prodM ((begun r L).on n) 86 v false).ev = [] ∧ (prodM ((begun r L).on n) 86 v false).r.g0.v = r.g0.v % 256 * (v % 256) % 256 + 256 * (r.g0.v % 256 * (v % 256) / 256 % 256) ∧
      andW (prodM ((begun r L).on n) 86 v false).r.f 1 = ifI (r.g0.v % 256 * (v % 256) / 256 % 256 != 0) 1 ∧ andW (prodM ((begun r L).on n) 86 v false).r.f 2048 = ifI (r.g0.v % 256 * (v % 256) / 256 % 256 != 0) 2048 := ⟨rfl, rfl, rfl, hf.1, hf.2⟩
  rwa [e] at key
theorem div_no (r : Regs) (L : List Int) (n : Nat) (name v : Int) (wd : Bool) (hn : name = 88 ∨ name = 89) (q : Int) (s : Int) (hd : divV name (if wd then r.g0.v else r.g0.v % 256) (if wd then r.g2.v else r.g0.v / 256) v wd = (q, s, false)) :
    (prodM ((begun r L).on n) name v wd).state = 1 ∧ (prodM ((begun r L).on n) name v wd).ev = [⟨5, 0, 0, 0, 0, 0, 0⟩] ∧ (prodM ((begun r L).on n) name v wd).r = ((begun r L).on n).r := by
  have e : prodM ((begun r L).on n) name v wd = ((begun r L).on n).end 5 := by
    rw [prodM, if_neg (by omega)]
    have h1 : (if wd then (((begun r L).on n).plain ((begun r L).on n).r.g0).plain ((begun r L).on n).r.g2 else ((begun r L).on n).plain ((begun r L).on n).r.g0) = (begun r L).on n := by cases wd <;> rfl
    have hd2 : divV name (if wd then ((begun r L).on n).r.g0.v else ((begun r L).on n).r.g0.v % 256) (if wd then ((begun r L).on n).r.g2.v else ((begun r L).on n).r.g0.v / 256) v wd = (q, s, false) := hd
    unfold Mach.divM
    dsimp only
    rw [hd2, h1]
    dsimp only
    rw [if_neg (by decide)]
  rw [e]
  exact ⟨rfl, rfl, rfl⟩
theorem div_yes (r : Regs) (L : List Int) (n : Nat) (name v : Int) (wd : Bool) (hn : name = 88 ∨ name = 89) (q : Int) (s : Int) (hd : divV name (if wd then r.g0.v else r.g0.v % 256) (if wd then r.g2.v else r.g0.v / 256) v wd = (q, s, true)) :
    (prodM ((begun r L).on n) name v wd).state = 0 ∧ (prodM ((begun r L).on n) name v wd).ev = [] ∧ (prodM ((begun r L).on n) name v wd).r = ((begun r L).on n).r.mulR q s wd := by
  have e : prodM ((begun r L).on n) name v wd = ((begun r L).on n).setR (((begun r L).on n).r.mulR q s wd) := by
    rw [prodM, if_neg (by omega)]
    have h1 : (if wd then (((begun r L).on n).plain ((begun r L).on n).r.g0).plain ((begun r L).on n).r.g2 else ((begun r L).on n).plain ((begun r L).on n).r.g0) = (begun r L).on n := by cases wd <;> rfl
    have hd2 : divV name (if wd then ((begun r L).on n).r.g0.v else ((begun r L).on n).r.g0.v % 256) (if wd then ((begun r L).on n).r.g2.v else ((begun r L).on n).r.g0.v / 256) v wd = (q, s, true) := hd
    unfold Mach.divM
    dsimp only
    rw [hd2, h1]
    dsimp only
    rw [if_pos rfl]
  rw [e]
  exact ⟨rfl, rfl, rfl⟩

def numN (r : Regs) (wd : Bool) : Int := if wd then r.g0.v + 65536 * r.g2.v else r.g0.v
theorem div88_V (r : Regs) (hr : r.wf) (v : Int) (wd : Bool) (v0 : 0 ≤ v) (v1 : v ≤ limW wd) :
    divV 88 (if wd then r.g0.v else r.g0.v % 256) (if wd then r.g2.v else r.g0.v / 256) v wd = if v = 0 then (0, 0, false) else if limW wd < numN r wd / v then (0, 0, false) else (numN r wd / v, numN r wd % v, true) := by
  have a0 : 0 ≤ r.g0.v := hr.g0.1
  have a1 : r.g0.v ≤ 65535 := hr.g0.2
  have e1 : cutW v wd = v := by
    unfold limW at v1
    unfold cutW
    cases wd <;> simp at v1 ⊢ <;> omega
  have e2 : cutW 65535 wd = limW wd := by cases wd <;> decide
  have e3 : divN (if wd then r.g0.v else r.g0.v % 256) (if wd then r.g2.v else r.g0.v / 256) wd = numN r wd := by
    unfold divN numN
    cases wd
    · simp only [Bool.false_eq_true, if_false]; omega
    · simp only [if_true]; omega
  unfold divV
  rw [e1, e2, e3, if_neg (show ¬ (88 : Int) = 89 by decide)]
theorem div88_no (r : Regs) (hr : r.wf) (L : List Int) (n : Nat) (v : Int) (wd : Bool) (v0 : 0 ≤ v) (v1 : v ≤ limW wd) (h : v = 0 ∨ limW wd < numN r wd / v) :
    (prodM ((begun r L).on n) 88 v wd).state = 1 ∧ (prodM ((begun r L).on n) 88 v wd).ev = [⟨5, 0, 0, 0, 0, 0, 0⟩] ∧ (prodM ((begun r L).on n) 88 v wd).r = ((begun r L).on n).r := by
  refine div_no r L n 88 v wd (Or.inl rfl) 0 0 ?_
  rw [div88_V r hr v wd v0 v1]
  by_cases e : v = 0
  · rw [if_pos e]
  · rw [if_neg e, if_pos (h.resolve_left e)]
theorem div88_yes (r : Regs) (hr : r.wf) (L : List Int) (n : Nat) (v : Int) (wd : Bool) (v0 : 0 ≤ v) (v1 : v ≤ limW wd) (h : v ≠ 0) (h2 : ¬ limW wd < numN r wd / v) :
    (prodM ((begun r L).on n) 88 v wd).state = 0 ∧ (prodM ((begun r L).on n) 88 v wd).ev = [] ∧ (prodM ((begun r L).on n) 88 v wd).r = ((begun r L).on n).r.mulR (numN r wd / v) (numN r wd % v) wd := by
  refine div_yes r L n 88 v wd (Or.inl rfl) _ _ ?_
  rw [div88_V r hr v wd v0 v1, if_neg h, if_neg h2]

/-- What the laws of sums, of one operand and of products carry: the machine, the instruction's box and its row's, hansom/addr.bases. -/
structure PIn (C : Phys) (lv : Value) (w wx : World) (m : Mach) (i : Inst) (r : IRow) (T : TypeId) (B5 B6 : Nat) : Prop where
  o : Own wx C lv m
  b : Below w.heap.size w wx
  i : Box C lv wx B5 i.cells 30
  r : Box C lv wx B6 (rowC r) 47
  g : Box C lv wx 0 basesC T
  n : ∀ k, k < w.heap.size → ¬ C.own lv k
section
variable {C : Phys} {lv lv2 : Value} {w wx wy : World} {m m2 : Mach} {i : Inst} {r : IRow} {T : TypeId} {B5 B6 : Nat}
theorem PIn.below (h : PIn C lv w wx m i r T B5 B6) (hb : Below wx.heap.size wx wy) : PIn C lv w wy m i r T B5 B6 := ⟨h.o.below hb, h.b.trans (hb.mono h.b.size), h.i.below hb, h.r.below hb, h.g.below hb, h.n⟩
theorem PIn.alloc (h : PIn C lv w wx m i r T B5 B6) (o : Obj) : PIn C lv w (wx.alloc o) m i r T B5 B6 := h.below ((Below.refl _ _).alloc (Nat.le_refl _) _)
theorem PIn.drew (h : PIn C lv w wx m i r T B5 B6) : PIn C lv w wx.drew m i r T B5 B6 := h.below (Below.refl _ _).drew
theorem PIn.step (h : PIn C lv w wx m i r T B5 B6) (o : Own wy C lv2 m2) (f : Fr (C.own lv) wx wy) (k : ∀ k, lv2.ownBlock = some k → lv.ownBlock = some k ∨ wx.heap.size ≤ k) : PIn C lv2 w wy m2 i r T B5 B6 :=
  ⟨o, below_step h.b f h.n, h.i.step f k, h.r.step f k, h.g.step f k, own_lv h.n k h.b.size⟩
end
end Go.Proofs.YtcglkefaopgjeaaGreatDoor

/- Instructions that came in by value: opened to what the walks take, and read again behind. -/
namespace Go.Proofs.YtcglkefaopgjeaaGreatDoor
set_option linter.unusedSimpArgs false
set_option linter.unusedVariables false
open Go.ChangeShapes Go.WideShapes Go.RowKit

section
variable {H : Type} {enc : TypeId × Value → H} {w : World} {base : Nat} {spare : Nat → Bool} {held : Bool}
set_option maxRecDepth 100000 in
theorem open_inst_list (c0 c1 c2 c3 c4 c5 c6 c7 c8 c9 : Value) {fuel : Nat} {d : DataW H} {p : List MemPlace} (hf : DataW.trod enc Tryz.prog w base spare held fuel 30 [c0, c1, c2, c3, c4, c5, c6, c7, c8, c9] = some (d, p)) : ∃ I : Inst, Value.agg #[c0, c1, c2, c3, c4, c5, c6, c7, c8, c9] = I.val ∧ I.kinds ∧ p = [] := by
  obtain ⟨xs, m, _, hx, _, hlen, hg⟩ := DataW.trod_struct Tryz.underlying30 hf
  have kb : Tryz.prog.cellsOf 4 = 1 := by kernel_rfl
  have ki : Tryz.prog.cellsOf 3 = 1 := by kernel_rfl
  have k8 : Tryz.prog.cellsOf 5 = 1 := by kernel_rfl
  have k16 : Tryz.prog.cellsOf 22 = 1 := by kernel_rfl
  match xs, hlen with
  | [y0, y1, y2, y3, y4, y5, y6, y7, y8, y9], _ =>
    have h0 := hg 0 _ rfl
    have h1 := hg 1 _ rfl
    have h2 := hg 2 _ rfl
    have h3 := hg 3 _ rfl
    have h4 := hg 4 _ rfl
    have h5 := hg 5 _ rfl
    have h6 := hg 6 _ rfl
    have h7 := hg 7 _ rfl
    have h8 := hg 8 _ rfl
    have h9 := hg 9 _ rfl
    simp only [List.getElem_toArray, List.getElem_cons_zero, List.getElem_cons_succ] at h0 h1 h2 h3 h4 h5 h6 h7 h8 h9
    simp only [Value.cells, kb, ki, k8, k16, List.drop_zero, List.take_succ_cons, List.take_zero, List.drop_succ_cons, List.getElem?_cons_zero, List.getElem?_cons_succ] at h0 h1 h2 h3 h4 h5 h6 h7 h8 h9
    obtain ⟨x0, e0, d0⟩ := DataW.trod_bool Tryz.underlying4 h0
    obtain ⟨x1, e1, d1, w1⟩ := DataW.trod_int Tryz.underlying3 h1
    obtain ⟨x2, e2, d2, w2⟩ := DataW.trod_int Tryz.underlying3 h2
    obtain ⟨x3, e3, d3, w3⟩ := DataW.trod_int Tryz.underlying5 h3
    obtain ⟨x4, e4, d4, w4⟩ := DataW.trod_int Tryz.underlying3 h4
    obtain ⟨x5, e5, d5, w5⟩ := DataW.trod_int Tryz.underlying3 h5
    obtain ⟨x6, e6, d6, w6⟩ := DataW.trod_int Tryz.underlying3 h6
    obtain ⟨x7, e7, d7, w7⟩ := DataW.trod_int Tryz.underlying22 h7
    obtain ⟨x8, e8, d8, w8⟩ := DataW.trod_int Tryz.underlying22 h8
    obtain ⟨x9, e9, d9, w9⟩ := DataW.trod_int Tryz.underlying22 h9
    simp only [List.cons.injEq, and_true] at e0 e1 e2 e3 e4 e5 e6 e7 e8 e9
    subst e0 e1 e2 e3 e4 e5 e6 e7 e8 e9
    have b3 := bounds_u8 w3
    refine ⟨⟨x0, x1, x2, x3, x4, x5, x6, x7, x8, x9⟩, rfl, ⟨b3, bounds_u16 w7, bounds_u16 w8, bounds_u16 w9⟩, ?_⟩
    simp only [Prod.mk.injEq] at hx
    rw [hx.2]
    subst d0 d1 d2 d3 d4 d5 d6 d7 d8 d9
    simp
set_option maxRecDepth 100000 in
theorem open_inst {r : Reach} {b0 : Nat} {v : Value} {d : DataW H} {p : List MemPlace} (hv : Value.okWide Tryz.prog w r b0 30 v) (h : DataW.Trod enc Tryz.prog w base spare held 30 v d p) : ∃ I : Inst, v = I.val ∧ I.kinds ∧ p = [] := by
  obtain ⟨cs, rfl, hsz⟩ := okWide_struct Tryz.underlying30 hv
  have k : Tryz.prog.cellsOf 30 = 10 := by kernel_rfl
  rw [k] at hsz
  obtain ⟨l⟩ := cs
  obtain ⟨fuel, hf⟩ := h
  match l, hsz with
  | [c0, c1, c2, c3, c4, c5, c6, c7, c8, c9], _ => exact open_inst_list _ _ _ _ _ _ _ _ _ _ hf
theorem inst_stays {W W' : World} {d : DataW H} {i : Inst} (h : DataW.Trod enc Tryz.prog W base (fun _ => true) true 30 i.val d []) {sp : Nat → Bool} : DataW.Trod enc Tryz.prog W' base sp true 30 i.val d [] :=
  Go.WideElems.Trod_stays (by kernel_rfl) (by kernel_rfl) (by decide +kernel) h (fun p hp => by cases hp) (fun p hp => by cases hp)
end
end Go.Proofs.YtcglkefaopgjeaaGreatDoor

/- What the condition on hansom/addr.bases says of the first block. -/
namespace Go.Proofs.YtcglkefaopgjeaaGreatDoor
set_option linter.unusedSimpArgs false
set_option linter.unusedVariables false
open Go.ChangeShapes Go.WideShapes Go.ChangeAt Go.RowKit

set_option maxRecDepth 100000 in
theorem ints2 {w : World} {base : Nat} {sp : Nat → Bool} {held : Bool} {m : Nat} {x : DataW Unit × List MemPlace} {c d : Value} {a b : Int} (h : DataW.trod (fun _ => ()) Tryz.prog w base sp held m 68 [c, d] = some x)
    (hx : x.1 = .agg [.lit (.int .i64 a), .lit (.int .i64 b)]) : c = .int .i64 a ∧ d = .int .i64 b := by
  obtain ⟨xs, n, _, ex, _, hl, hel⟩ := DataW.trod_array Tryz.underlying68 h
  have k1 : Tryz.prog.cellsOf 3 = 1 := by kernel_rfl
  have h0 := hel 0 (by decide)
  have h1 := hel 1 (by decide)
  rw [k1] at h0 h1
  match xs, hl with
  | [y0, y1], _ =>
    obtain ⟨z0, e0, d0, _⟩ := DataW.trod_int Tryz.underlying3 h0
    obtain ⟨z1, e1, d1, _⟩ := DataW.trod_int Tryz.underlying3 h1
    rw [ex] at hx
    subst d0 d1
    simp only [List.map_cons, List.map_nil, DataW.agg.injEq, List.cons.injEq, DataW.lit.injEq, Lit.int.injEq, true_and, and_true] at hx
    simp at e0 e1
    rw [e0, e1, hx.1, hx.2]
    exact ⟨rfl, rfl⟩
set_option maxRecDepth 100000 in
theorem bases_row {W : World} (h : laidMetH Tryz.prog [("hansom/addr.bases", Rows.laid_hansom_addr_bases)] W) : ∃ T, Row W 0 basesC T := by
  rw [MakeChecks.laidMetH_plain _ _ _ (by kernel_rfl)] at h
  obtain ⟨ps, ⟨g, t, cs, fuel, p, q, hg, ht, hv, hd, _, rfl⟩, _, hcell⟩ := h
  obtain rfl := Option.some.inj ((show Tryz.prog.globalNamed "hansom/addr.bases" = some 0 by kernel_rfl).symm.trans hg)
  obtain rfl := Option.some.inj ((show (Tryz.prog.globals[0]?).map (·.type) = some 163 by kernel_rfl).symm.trans ht)
  obtain ⟨xs, m, _, ex, hc, hl, hel⟩ := DataW.trod_array Tryz.underlying163 hd
  have k16 : Tryz.prog.cellsOf 163 = 16 := by kernel_rfl
  have k2 : Tryz.prog.cellsOf 68 = 2 := by kernel_rfl
  rw [k16] at hc
  obtain ⟨cl⟩ := cs
  match cl, hc, xs, hl with
  | [c0, c1, c2, c3, c4, c5, c6, c7, c8, c9, c10, c11, c12, c13, c14, c15], _, [y0, y1, y2, y3, y4, y5, y6, y7], _ =>
    rw [k2] at hel
    have ex1 := (Prod.mk.inj ex).1
    unfold Rows.laid_hansom_addr_bases at ex1
    simp only [List.map_cons, List.map_nil, DataW.agg.injEq, List.cons.injEq, and_true] at ex1
    obtain ⟨z0, z1, z2, z3, z4, z5, z6, z7⟩ := ex1
    obtain ⟨rfl, rfl⟩ := ints2 (hel 0 (by decide)) z0.symm
    obtain ⟨rfl, rfl⟩ := ints2 (hel 1 (by decide)) z1.symm
    obtain ⟨rfl, rfl⟩ := ints2 (hel 2 (by decide)) z2.symm
    obtain ⟨rfl, rfl⟩ := ints2 (hel 3 (by decide)) z3.symm
    obtain ⟨rfl, rfl⟩ := ints2 (hel 4 (by decide)) z4.symm
    obtain ⟨rfl, rfl⟩ := ints2 (hel 5 (by decide)) z5.symm
    obtain ⟨rfl, rfl⟩ := ints2 (hel 6 (by decide)) z6.symm
    obtain ⟨rfl, rfl⟩ := ints2 (hel 7 (by decide)) z7.symm
    have hm : MemPlace.cell 0 0 ∈ MemPlace.row ⟨0, 0, none⟩ 16 ++ p ++ q := by
      refine List.mem_append_left _ (List.mem_append_left _ ?_)
      unfold MemPlace.row
      exact List.mem_map.2 ⟨0, by simp, rfl⟩
    obtain ⟨⟨c, T, hheap⟩, _⟩ := hcell 0 0 hm
    unfold World.var? at hv
    rw [hg, Option.bind_some, hheap] at hv
    obtain rfl := Option.some.inj hv
    exact ⟨T, hheap⟩
end Go.Proofs.YtcglkefaopgjeaaGreatDoor
