/- Package inst, continued: May. -/
import Derived.Test.YtcglkefaopgjeaaGreatDoorH7
namespace Go.Proofs.YtcglkefaopgjeaaGreatDoor
set_option linter.unusedSimpArgs false
set_option linter.unusedVariables false
open Go.RowKit

def mayB (i : Inst) : Bool := match instRow i.op i.reg with
  | none => false
  | some r => secondB i r && behindB i r && prefixesB i r
abbrev Inst.cells (i : Inst) : Array Value := #[.bool i.lock, .int .i64 i.rep, .int .i64 i.seg, .int .u8 i.op, .int .i64 i.mod, .int .i64 i.reg, .int .i64 i.rm, .int .u16 i.disp, .int .u16 i.imm, .int .u16 i.sel]

set_option maxRecDepth 100000 in
set_option maxHeartbeats 6400000 in
theorem may_any (i : Inst) (w : World) (hi : i.wf) : Calls Tryz.prog 151 #[i.val] w fun e w' => e = .returned (.bool (mayB i)) ∧ Below w.heap.size w w' := by
  have hx := Row.new w i.cells 30
  have HX := Lib.hid hx
  have HB0 := Lib.hid ((Below.refl w.heap.size w).alloc (Nat.le_refl _) (.cells i.cells 30))
  have xc := hx.cell
  clear hx
  cases hr : instRow i.op i.reg with
  | none =>
    have HE := Lib.hid (show mayB i = false by rw [mayB, hr])
    have HR := Lib.hid hr
    clear hr xc
    go_enter Tryz.func151, Tryz.ntmps151
    go_wp2_with fail
    refine (instRow_any i _ hi.op.1 hi.op.2 hi.reg.1 hi.reg.2).mono ?_
    rw [HR.out, rowV_none]
    rintro e w1 ⟨rfl, hb⟩; dsimp only
    have HB1 := Lib.hid (HB0.out.trans (hb.mono HB0.out.size))
    clear hb
    go_wp2_with fail
    go_ret
    rw [HE.out]
    exact ⟨rfl, HB1.out.alloc HB1.out.size _⟩
  | some r =>
    obtain ⟨rn, ra, rb, rm⟩ := r
    obtain ⟨b1, h1⟩ : ∃ b, secondB i ⟨rn, ra, rb, rm⟩ = b := ⟨_, rfl⟩
    obtain ⟨b2, h2⟩ : ∃ b, behindB i ⟨rn, ra, rb, rm⟩ = b := ⟨_, rfl⟩
    have HE := Lib.hid (show mayB i = (b1 && b2 && prefixesB i ⟨rn, ra, rb, rm⟩) by rw [mayB, hr]; dsimp only; rw [h1, h2])
    have HR := Lib.hid hr
    have H1 := Lib.hid h1
    have H2 := Lib.hid h2
    clear hr xc h1 h2
    go_enter Tryz.func151, Tryz.ntmps151
    go_wp2_with fail
    refine (instRow_any i _ hi.op.1 hi.op.2 hi.reg.1 hi.reg.2).mono ?_
    rw [HR.out, rowV_some]
    rintro e w1 ⟨rfl, hb⟩; dsimp only
    have HB1 := Lib.hid ((HB0.out.trans (hb.mono HB0.out.size)).alloc (HB0.out.trans (hb.mono HB0.out.size)).size (.cells #[.int .i64 rn, .int .i64 ra, .int .i64 rb, .bool rm] 47))
    have hx1 := (Below.row hb HX.out HX.out.lt).alloc (.cells #[.int .i64 rn, .int .i64 ra, .int .i64 rb, .bool rm] 47)
    have hy1 := Row.new w1 #[.int .i64 rn, .int .i64 ra, .int .i64 rb, .bool rm] 47
    have HX1 := Lib.hid hx1
    have HY1 := Lib.hid hy1
    have hl := (Below.row hb HX.out HX.out.lt).lt
    have xc := (Below.row hb HX.out HX.out.lt).cell
    clear hb hx1 hy1
    go_wp2_with fail
    refine (second_any i ⟨rn, ra, rb, rm⟩ _ hi).mono ?_
    rw [H1.out]
    rintro e w2 ⟨rfl, hb⟩; dsimp only
    have HB2 := Lib.hid (HB1.out.trans (hb.mono HB1.out.size))
    have HX2 := Lib.hid (Below.row hb HX1.out HX1.out.lt)
    have HY2 := Lib.hid (Below.row hb HY1.out HY1.out.lt)
    clear xc hb
    have xc := HX2.out.cell
    have yc := HY2.out.cell
    cases b1 with
    | false =>
      go_wp2_with fail
      go_ret
      rw [HE.out]
      exact ⟨rfl, HB2.out⟩
    | true =>
      go_wp2_with fail
      refine (behind_any i ⟨rn, ra, rb, rm⟩ _ hi).mono ?_
      rw [H2.out]
      rintro e w3 ⟨rfl, hb⟩; dsimp only
      have HB3 := Lib.hid (HB2.out.trans (hb.mono HB2.out.size))
      have HX3 := Lib.hid (Below.row hb HX2.out HX2.out.lt)
      have HY3 := Lib.hid (Below.row hb HY2.out HY2.out.lt)
      clear xc yc hb
      have xc := HX3.out.cell
      have yc := HY3.out.cell
      cases b2 with
      | false =>
        go_wp2_with fail
        go_ret
        rw [HE.out]
        exact ⟨rfl, HB3.out⟩
      | true =>
        go_wp2_with fail
        refine (prefixes_any i ⟨rn, ra, rb, rm⟩ _).mono ?_
        rintro e w4 ⟨rfl, hb⟩; dsimp only
        have HB4 := Lib.hid (HB3.out.trans (hb.mono HB3.out.size))
        clear xc yc hb
        go_wp2_with fail
        go_ret
        rw [HE.out]
        exact ⟨rfl, HB4.out⟩
end Go.Proofs.YtcglkefaopgjeaaGreatDoor
