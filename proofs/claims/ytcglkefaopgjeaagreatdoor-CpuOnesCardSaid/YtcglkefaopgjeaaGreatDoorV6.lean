/- Parts of the proof, in one text: YtcglkefaopgjeaaGreatDoorQ0 YtcglkefaopgjeaaGreatDoorQ1 YtcglkefaopgjeaaGreatDoorQ4 YtcglkefaopgjeaaGreatDoorQ5 YtcglkefaopgjeaaGreatDoorS5 YtcglkefaopgjeaaGreatDoorS6 YtcglkefaopgjeaaGreatDoorSA YtcglkefaopgjeaaGreatDoorS7 YtcglkefaopgjeaaGreatDoorU0 YtcglkefaopgjeaaGreatDoorU2 YtcglkefaopgjeaaGreatDoorU3 YtcglkefaopgjeaaGreatDoorU6 YtcglkefaopgjeaaGreatDoorU4 YtcglkefaopgjeaaGreatDoorU1 YtcglkefaopgjeaaGreatDoorT3 YtcglkefaopgjeaaGreatDoorS9 YtcglkefaopgjeaaGreatDoorU5 YtcglkefaopgjeaaGreatDoorU7 YtcglkefaopgjeaaGreatDoorPK YtcglkefaopgjeaaGreatDoorPN. Each part's own remark says what it proves; conditions: those of each theorem. -/
import Derived.Test.YtcglkefaopgjeaaGreatDoorV2
import Derived.Test.YtcglkefaopgjeaaGreatDoorV3
import Derived.Deep.CutBlock
import Derived.Test.YtcglkefaopgjeaaGreatDoorR3
import Derived.Test.YtcglkefaopgjeaaGreatDoorV4
import Derived.Test.YtcglkefaopgjeaaGreatDoorJ7
import Derived.Test.YtcglkefaopgjeaaGreatDoorP3
import Derived.Test.YtcglkefaopgjeaaGreatDoorP0

/- An instruction's bytes are read as the instruction, and as nothing else: plain laws, no walk. -/
namespace Go.Proofs.YtcglkefaopgjeaaGreatDoor
set_option linter.unusedSimpArgs false
set_option linter.unusedVariables false
open Go.RowKit

/-- Bytes from a place on. -/
def Reads (bs : Nat → Int) (n : Nat) (l : List Int) : Prop := ∀ k, k < l.length → bs (n + k) = l.getD k 0
theorem Reads.app {bs : Nat → Int} {n : Nat} {l1 l2 : List Int} (h : Reads bs n (l1 ++ l2)) : Reads bs n l1 ∧ Reads bs (n + l1.length) l2 := by
  refine ⟨fun k hk => ?_, fun k hk => ?_⟩
  · rw [h k (by rw [List.length_append]; omega)]
    simp [List.getD_eq_getElem?_getD, List.getElem?_append_left hk]
  · rw [Nat.add_assoc, h (l1.length + k) (by rw [List.length_append]; omega)]
    rw [List.getD_eq_getElem?_getD, List.getD_eq_getElem?_getD, List.getElem?_append_right (by omega), Nat.add_sub_cancel_left]
theorem Reads.get {bs : Nat → Int} {l : List Int} (h : Reads bs 0 l) (k : Nat) (v : Int) (hk : l[k]? = some v) : bs k = v := by
  have hl : k < l.length := by rcases Nat.lt_or_ge k l.length with e | e; exact e; rw [List.getElem?_eq_none e] at hk; cases hk
  have := h k hl
  rwa [Nat.zero_add, List.getD_eq_getElem?_getD, hk] at this
theorem Reads.at {bs : Nat → Int} {n : Nat} {l : List Int} (h : Reads bs n l) (k : Nat) (hk : k < l.length) : bs (n + k) = l.getD k 0 := h k hk

def pre0 (lock : Bool) : List Int := if lock then [240] else []
def pre1 (rep : Int) : List Int := if 0 < rep then [241 + rep] else []
def pre2 (seg : Int) : List Int := if 0 < seg then [30 + 8 * seg] else []
def preL (i : Inst) : List Int := pre0 i.lock ++ pre1 i.rep ++ pre2 i.seg
def dispL (d x : Int) : List Int := if d = 1 then [x % 256] else if d = 2 then [x % 256, x / 256] else []
def secL (i : Inst) (r : IRow) : List Int := if r.mod then (64 * i.mod + 8 * i.reg + i.rm) :: dispL (dispsOf i.mod i.rm) i.disp else []
def immL (n imm sel : Int) : List Int := if n = 1 then [imm % 256] else if n = 2 then [imm % 256, imm / 256] else if n = 4 then [imm % 256, imm / 256, sel % 256, sel / 256] else []
def putL (i : Inst) : List Int := preL i ++ (i.op :: (secL i ((instRow i.op i.reg).getD zRow) ++ immL (immsOf ((instRow i.op i.reg).getD zRow)) i.imm i.sel))

theorem ahead_put (bs : Nat → Int) (lock : Bool) (rep seg op : Int) (hr0 : 0 ≤ rep) (hr : rep ≤ 2) (hs0 : 0 ≤ seg) (hs : seg ≤ 4) (ho : isPre op = false)
    (h : Reads bs 0 (pre0 lock ++ pre1 rep ++ pre2 seg)) (hop : bs (pre0 lock ++ pre1 rep ++ pre2 seg).length = op) :
    aheadF bs 4 0 false 0 0 = some (op, (pre0 lock ++ pre1 rep ++ pre2 seg).length + 1, lock, rep, seg) := by
  have e1 : rep = 0 ∨ rep = 1 ∨ rep = 2 := by omega
  have e2 : seg = 0 ∨ seg = 1 ∨ seg = 2 ∨ seg = 3 ∨ seg = 4 := by omega
  cases lock <;> rcases e1 with rfl | rfl | rfl <;> rcases e2 with rfl | rfl | rfl | rfl | rfl <;>
    simp [pre0, pre1, pre2] at h hop ⊢ <;>
    have h0 := h.get 0 <;> have h1 := h.get 1 <;> have h2 := h.get 2 <;> clear h <;>
    simp_all [aheadF, isPre]

/-- What a row's numbers tell of each other: by the table. -/
def tailOf (r : IRow) : Int := if immOf r.a = 0 then r.b else r.a
def rowOk (op : Int) (r : IRow) : Bool :=
  (r.mod == twoOf op) && (immsOf r == immOf (tailOf r)) &&
  (immsOf r != 1 || ((decide (r.a = 9 ∨ r.b = 8)) == (tailOf r == 8 || tailOf r == 9)))
theorem rows_ok : ∀ op : Fin 256, ∀ reg : Fin 8, (match isaOf (op.val : Nat) (reg.val : Nat) with | none => true | some r => rowOk (op.val : Nat) r) = true := by decide +kernel
theorem row_ok {op reg : Int} {r : IRow} (h0 : 0 ≤ op) (h1 : op ≤ 255) (g0 : 0 ≤ reg) (g1 : reg ≤ 7) (h : isaOf op reg = some r) : rowOk op r = true := by
  obtain ⟨a, rfl⟩ := Int.eq_ofNat_of_zero_le h0
  obtain ⟨b, rfl⟩ := Int.eq_ofNat_of_zero_le g0
  have := rows_ok ⟨a, by omega⟩ ⟨b, by omega⟩
  rw [show ((⟨a, by omega⟩ : Fin 256).val) = a from rfl, show ((⟨b, by omega⟩ : Fin 8).val) = b from rfl, h] at this
  exact this
theorem fits_sign {x : Int} (h : fitsB x = true) : signW (x % 256) = x := by unfold fitsB at h; simpa using h

theorem second_put (bs : Nat → Int) (n : Nat) (i : Inst) (r : IRow) (hi : i.wf) (hm : r.mod = true) (hs : secondB i r = true) (h : Reads bs n (secL i r)) :
    secondF bs n (opI i.op i.lock i.rep i.seg) = ({ i with imm := 0, sel := 0 }, n + (secL i r).length) := by
  obtain ⟨lock, rep, seg, op, mod, reg, rm, disp, imm, sel⟩ := i
  have w1 := hi.mod
  have w2 := hi.reg
  have w3 := hi.rm
  have w4 := hi.disp
  dsimp only at w1 w2 w3 w4
  unfold secL at h ⊢
  rw [hm, if_pos rfl] at h ⊢
  dsimp only at h ⊢
  have b0 : bs n = 64 * mod + 8 * reg + rm := by have := h 0 (by simp); simpa using this
  have e1 : bs n / 64 = mod := by omega
  have e2 : bs n / 8 % 8 = reg := by omega
  have e3 : bs n % 8 = rm := by omega
  unfold secondB at hs
  rw [hm, if_neg (by decide)] at hs
  dsimp only at hs
  split at hs
  · cases hs
  unfold secondF
  dsimp only
  rw [e1, e2, e3]
  have hd : dispsOf mod rm = 0 ∨ dispsOf mod rm = 1 ∨ dispsOf mod rm = 2 := by unfold dispsOf; split; simp; split <;> simp
  rcases hd with e | e | e <;> rw [e] at hs h ⊢ <;> simp only [if_pos, if_neg, show ¬ (0 : Int) = 1 by decide, show ¬ (0 : Int) = 2 by decide, show ¬ (1 : Int) = 0 by decide, show ¬ (2 : Int) = 0 by decide, show ¬ (2 : Int) = 1 by decide, dispL] at hs h ⊢
  · have : disp = 0 := by simpa using hs
    subst this
    rfl
  · have b1 : bs (n + 1) = disp % 256 := by have := h 1 (by simp); simpa using this
    rw [b1, fits_sign hs]; rfl
  · have b1 : bs (n + 1) = disp % 256 := by have := h 1 (by simp); simpa using this
    have b2 : bs (n + 2) = disp / 256 := by have := h 2 (by simp); simpa using this
    rw [b1, b2, show disp % 256 + 256 * (disp / 256) = disp by omega]; rfl

theorem behind_put (bs : Nat → Int) (n : Nat) (i : Inst) (r : IRow) (hi : i.wf) (hb : behindB i r = true) (hk : immsOf r = immOf (tailOf r)) (h8 : immsOf r = 1 → ((r.a = 9 ∨ r.b = 8) ↔ (tailOf r = 8 ∨ tailOf r = 9)))
    (h : Reads bs n (immL (immsOf r) i.imm i.sel)) :
    behindF bs n { i with imm := 0, sel := 0 } r = (i, n + (immL (immsOf r) i.imm i.sel).length) := by
  obtain ⟨lock, rep, seg, op, mod, reg, rm, disp, imm, sel⟩ := i
  have w5 := hi.imm
  have w6 := hi.sel
  dsimp only at w5 w6 h ⊢
  have ht : (tailB imm sel r.name (tailOf r)).getD (imm == 0 && sel == 0) = true := by
    unfold behindB at hb
    dsimp only at hb
    unfold tailOf
    have hn : ∀ k, immOf k = 0 → tailB imm sel r.name k = none := by
      intro k hk
      unfold immOf at hk
      unfold tailB
      repeat' split at hk
      all_goals first | omega | (rw [if_neg (by omega), if_neg (by omega), if_neg (by omega), if_neg (by omega)])
    have hsm : ∀ k, immOf k ≠ 0 → ∃ b, tailB imm sel r.name k = some b := by
      intro k hk
      unfold immOf at hk
      unfold tailB
      repeat' split
      all_goals first | exact ⟨_, rfl⟩ | (exfalso; apply hk; rw [if_neg (by omega), if_neg (by omega), if_neg (by omega)])
    split
    · next e => rw [hn _ e] at hb; exact hb
    · next e =>
      obtain ⟨b, hb2⟩ := hsm _ e
      rw [hb2] at hb ⊢
      exact hb
  clear hb
  generalize tailOf r = k at hk h8 ht
  rw [hk] at h h8 ⊢
  unfold behindF
  rw [hk]
  unfold tailB at ht
  by_cases k6 : k = 6
  · subst k6
    simp only [immOf, immL, if_pos, true_or] at h ht h8 ⊢
    have b0 : bs n = imm % 256 := by have := h 0 (by simp); simpa using this
    have hno : ¬ (r.a = 9 ∨ r.b = 8) := by intro e; have := (h8 trivial).1 e; omega
    simp at ht
    rw [if_neg hno, b0]
    have : imm % 256 = imm := by omega
    rw [this]
    have : sel = 0 := ht.1.2
    subst this
    rfl
  · by_cases k89 : k = 8 ∨ k = 9
    · have e1 : immOf k = 1 := by unfold immOf; rw [if_pos (by omega)]
      rw [if_neg k6, if_pos k89] at ht
      rw [e1] at h h8 ⊢
      have hyes : (r.a = 9 ∨ r.b = 8) := (h8 rfl).2 k89
      simp only [immL, if_pos] at h ⊢
      have b0 : bs n = imm % 256 := by have := h 0 (by simp); simpa using this
      simp at ht
      rw [if_pos hyes, b0, fits_sign ht.1]
      have : sel = 0 := ht.2
      subst this
      rfl
    · by_cases k7 : k = 7 ∨ k = 10 ∨ k = 12 ∨ k = 13
      · have e1 : immOf k = 2 := by unfold immOf; rw [if_neg (by omega), if_pos k7]
        rw [if_neg k6, if_neg k89, if_pos k7] at ht
        rw [e1] at h ⊢
        simp only [immL, if_pos, if_neg, show ¬ (2 : Int) = 1 by decide] at h ⊢
        have b0 : bs n = imm % 256 := by have := h 0 (by simp); simpa using this
        have b1 : bs (n + 1) = imm / 256 := by have := h 1 (by simp); simpa using this
        simp at ht
        rw [b0, b1, show imm % 256 + 256 * (imm / 256) = imm by omega, ht]
        rfl
      · by_cases k11 : k = 11
        · subst k11
          have e1 : immOf 11 = 4 := by decide
          rw [e1] at h ⊢
          simp only [immL, if_pos, if_neg, show ¬ (4 : Int) = 1 by decide, show ¬ (4 : Int) = 2 by decide] at h ⊢
          have b0 : bs n = imm % 256 := by have := h 0 (by simp); simpa using this
          have b1 : bs (n + 1) = imm / 256 := by have := h 1 (by simp); simpa using this
          have b2 : bs (n + 2) = sel % 256 := by have := h 2 (by simp); simpa using this
          have b3 : bs (n + 3) = sel / 256 := by have := h 3 (by simp); simpa using this
          rw [b0, b1, b2, b3, show imm % 256 + 256 * (imm / 256) = imm by omega, show sel % 256 + 256 * (sel / 256) = sel by omega]
          rfl
        · have e1 : immOf k = 0 := by unfold immOf; rw [if_neg (by omega), if_neg (by omega), if_neg (by omega)]
          rw [if_neg k6, if_neg k89, if_neg k7, if_neg k11] at ht
          rw [e1] at h ⊢
          simp only [immL, if_neg, show ¬ (0 : Int) = 1 by decide, show ¬ (0 : Int) = 2 by decide, show ¬ (0 : Int) = 4 by decide] at h ⊢
          simp at ht
          rw [ht.1, ht.2]
          rfl

/-- An instruction's bytes are read as the instruction. -/
theorem take_put (bs : Nat → Int) (i : Inst) (hi : i.wf) (hm : mayB i = true) (hr0 : 0 ≤ i.rep) (hr : i.rep ≤ 2) (h : Reads bs 0 (putL i)) : takeF bs = some (i, (putL i).length) := by
  unfold mayB at hm
  cases hrow : instRow i.op i.reg with
  | none => rw [hrow] at hm; cases hm
  | some r =>
    have hm0 := hm
    rw [hrow] at hm
    simp only [Bool.and_eq_true] at hm
    obtain ⟨⟨h2, hb⟩, hp⟩ := hm
    have hpre : isPre i.op = false := by
      unfold instRow at hrow
      split at hrow
      · cases hrow
      · next e => simpa using e
    have hisa : isaOf i.op i.reg = some r := by rwa [instRow, hpre, if_neg (by decide)] at hrow
    have ok := row_ok hi.op.1 hi.op.2 hi.reg.1 hi.reg.2 hisa
    unfold rowOk at ok
    simp only [Bool.and_eq_true, beq_iff_eq] at ok
    obtain ⟨⟨k1, k2⟩, k3⟩ := ok
    unfold putL at h ⊢
    rw [hrow, Option.getD_some] at h ⊢
    obtain ⟨ha, hrest⟩ := h.app
    rw [Nat.zero_add] at hrest
    have hop : bs (preL i).length = i.op := by have := hrest 0 (by simp); simpa using this
    have hs : i.seg = i.seg := rfl
    have hseg : 0 ≤ i.seg ∧ i.seg ≤ 4 := by
      unfold prefixesB at hp
      simp only [Bool.and_eq_true, decide_eq_true_eq] at hp
      exact ⟨hp.1.2, hp.2⟩
    have e1 := ahead_put bs i.lock i.rep i.seg i.op hr0 hr hseg.1 hseg.2 hpre ha hop
    change aheadF bs 4 0 false 0 0 = some (i.op, (preL i).length + 1, i.lock, i.rep, i.seg) at e1
    unfold takeF
    rw [e1]
    dsimp only
    have hrest2 : Reads bs ((preL i).length + 1) (secL i r ++ immL (immsOf r) i.imm i.sel) := by
      have := (Reads.app (l1 := [i.op]) (l2 := secL i r ++ immL (immsOf r) i.imm i.sel) hrest).2
      exact this
    obtain ⟨hsec, himm⟩ := hrest2.app
    have e2 : twoF bs i.op ((preL i).length + 1) i.lock i.rep i.seg = ({ i with imm := 0, sel := 0 }, (preL i).length + 1 + (secL i r).length) := by
      unfold twoF
      cases hmod : r.mod with
      | true => rw [← k1, hmod, if_pos rfl]; exact second_put bs _ i r hi hmod h2 hsec
      | false =>
        rw [← k1, hmod, if_neg (by decide)]
        unfold secondB at h2
        rw [hmod, if_pos rfl] at h2
        simp only [Bool.and_eq_true, beq_iff_eq] at h2
        obtain ⟨⟨⟨q1, q2⟩, q3⟩, q4⟩ := h2
        unfold secL
        rw [hmod]
        simp only [Bool.false_eq_true, if_false, List.length_nil, Nat.add_zero]
        simp [opI, q1, q2, q3, q4]
    rw [e2]
    unfold restF
    dsimp only
    rw [hisa]
    dsimp only
    have h8 : immsOf r = 1 → ((r.a = 9 ∨ r.b = 8) ↔ (tailOf r = 8 ∨ tailOf r = 9)) := by
      intro e
      rw [e] at k3
      simp only [bne_self_eq_false, Bool.false_or, beq_iff_eq] at k3
      constructor
      · intro q
        rw [decide_eq_true q] at k3
        have := k3.symm
        simpa using this
      · intro q
        have : (tailOf r == 8 || tailOf r == 9) = true := by simpa using q
        rw [this] at k3
        exact of_decide_eq_true k3
    rw [behind_put bs _ i r hi hb k2 h8 himm]
    dsimp only
    have : mayB i = true := by unfold mayB; exact hm0
    rw [this, if_pos rfl]
    congr 2
    simp [List.length_append]
    omega
end Go.Proofs.YtcglkefaopgjeaaGreatDoor

/- The reference's instruction near any numbers is one that may be, and its bytes are bytes: plain laws, no walk. -/
namespace Go.Proofs.YtcglkefaopgjeaaGreatDoor
set_option linter.unusedSimpArgs false
set_option linter.unusedVariables false
open Go.RowKit

abbrev nopI : Inst := ⟨false, 0, 0, 144, 0, 0, 0, 0, 0, 0⟩
def nearRep (rep n : Int) : Int := if 0 < n ∧ 0 < rep % 4 then (if n = 2 ∧ rep % 2 = 1 then 1 else 2) else 0
def nearSeg (seg : Int) : Int := if seg % 8 ≤ 4 then seg % 8 else 0
def nearDisp (d disp : Int) : Int := if d = 1 then signW (disp % 256) else if d = 2 then disp else 0
def nearImm (k name imm : Int) : Int :=
  if k = 6 then (if name = 70 ∨ name = 71 then 10 else imm % 256) else if k = 8 ∨ k = 9 then signW (imm % 256) else
  if k = 7 ∨ k = 10 ∨ k = 12 ∨ k = 13 then imm else if k = 11 then imm else 0
def nearSel (k sel : Int) : Int := if k = 11 then sel else 0
/-- An instruction near one of any numbers, by its row. -/
def nearR (x : Inst) (r : IRow) : Inst :=
  ⟨x.lock, nearRep x.rep (repsOf r.name), nearSeg x.seg, x.op, if r.mod then x.mod % 4 else 0, if r.mod then x.reg % 8 else 0, if r.mod then x.rm % 8 else 0,
    if r.mod then nearDisp (dispsOf (x.mod % 4) (x.rm % 8)) x.disp else 0, nearImm (tailOf r) r.name x.imm, nearSel (tailOf r) x.sel⟩
def nearI (x : Inst) : Inst := match instRow x.op (x.reg % 8) with
  | none => nopI
  | some r => if mayB (nearR x r) then nearR x r else nopI

/-- Numbers of their kinds. -/
structure Inst.kinds (i : Inst) : Prop where
  op : 0 ≤ i.op ∧ i.op ≤ 255
  disp : 0 ≤ i.disp ∧ i.disp ≤ 65535
  imm : 0 ≤ i.imm ∧ i.imm ≤ 65535
  sel : 0 ≤ i.sel ∧ i.sel ≤ 65535
structure Inst.good (i : Inst) : Prop where
  wf : i.wf
  may : mayB i = true
  rep : 0 ≤ i.rep ∧ i.rep ≤ 2
  seg : 0 ≤ i.seg ∧ i.seg ≤ 4
theorem nop_good : nopI.good := ⟨⟨by decide, by decide, by decide, by decide, by decide, by decide, by decide⟩, by decide +kernel, by decide, by decide⟩
theorem nearR_wf (x : Inst) (h : x.kinds) (r : IRow) : (nearR x r).wf ∧ (0 ≤ (nearR x r).rep ∧ (nearR x r).rep ≤ 2) ∧ (0 ≤ (nearR x r).seg ∧ (nearR x r).seg ≤ 4) := by
  have s0 := signW_lo (x.disp % 256) (by omega)
  have s1 := signW_hi (x.disp % 256) (by omega)
  have t0 := signW_lo (x.imm % 256) (by omega)
  have t1 := signW_hi (x.imm % 256) (by omega)
  have hd := h.disp
  have hi := h.imm
  have hs := h.sel
  refine ⟨⟨h.op, ?_, ?_, ?_, ?_, ?_, ?_⟩, ?_, ?_⟩
  all_goals
    simp only [nearR, nearDisp, nearImm, nearSel, nearRep, nearSeg]
    repeat' split
    all_goals omega
theorem near_good (x : Inst) (h : x.kinds) : (nearI x).good := by
  unfold nearI
  split
  · exact nop_good
  · next r _ =>
    split
    · next e => exact ⟨(nearR_wf x h r).1, e, (nearR_wf x h r).2.1, (nearR_wf x h r).2.2⟩
    · exact nop_good
theorem preL_le (i : Inst) : (preL i).length ≤ 3 := by
  unfold preL pre0 pre1 pre2; simp only [List.length_append]; repeat' split
  all_goals simp
theorem secL_le (i : Inst) (r : IRow) : (secL i r).length ≤ 3 := by
  unfold secL dispL; repeat' split
  all_goals simp
theorem immL_le (n a b : Int) : (immL n a b).length ≤ 4 := by
  unfold immL; repeat' split
  all_goals simp
theorem putL_le (i : Inst) : (putL i).length ≤ 11 := by
  have h1 := preL_le i
  have h2 := secL_le i ((instRow i.op i.reg).getD zRow)
  have h3 := immL_le (immsOf ((instRow i.op i.reg).getD zRow)) i.imm i.sel
  unfold putL
  simp only [List.length_append, List.length_cons]
  omega
theorem putL_pos (i : Inst) : 1 ≤ (putL i).length := by
  unfold putL
  simp only [List.length_append, List.length_cons]
  omega
theorem putL_byte (i : Inst) (hi : i.good) : ∀ x ∈ putL i, 0 ≤ x ∧ x ≤ 255 := by
  have w := hi.wf
  have w1 := w.op
  have w2 := w.mod
  have w3 := w.reg
  have w4 := w.rm
  have w5 := w.disp
  have w6 := w.imm
  have w7 := w.sel
  have r := hi.rep
  have s := hi.seg
  intro x hx
  unfold putL preL pre0 pre1 pre2 secL dispL immL at hx
  simp only [List.mem_append, List.mem_cons] at hx
  repeat' split at hx
  all_goals
    simp only [List.mem_cons, List.not_mem_nil, or_false, false_or] at hx
    omega
end Go.Proofs.YtcglkefaopgjeaaGreatDoor

/- The reference's near instruction, where no operand must lie in memory; one of one name is found: plain laws, no walk. -/
namespace Go.Proofs.YtcglkefaopgjeaaGreatDoor
set_option linter.unusedSimpArgs false
set_option linter.unusedVariables false
open Go.RowKit

theorem behindB_tail (i : Inst) (r : IRow) : behindB i r = (tailB i.imm i.sel r.name (tailOf r)).getD (i.imm == 0 && i.sel == 0) := by
  have hn : ∀ k, immOf k = 0 → tailB i.imm i.sel r.name k = none := by
    intro k hk
    unfold immOf at hk
    unfold tailB
    repeat' split at hk
    all_goals first | omega | (rw [if_neg (by omega), if_neg (by omega), if_neg (by omega), if_neg (by omega)])
  have hsm : ∀ k, immOf k ≠ 0 → ∃ b, tailB i.imm i.sel r.name k = some b := by
    intro k hk
    unfold immOf at hk
    unfold tailB
    repeat' split
    all_goals first | exact ⟨_, rfl⟩ | (exfalso; apply hk; rw [if_neg (by omega), if_neg (by omega), if_neg (by omega)])
  unfold behindB tailOf
  split
  · next e => rw [hn _ e]; rfl
  · next e => obtain ⟨b, hb⟩ := hsm _ e; rw [hb]; rfl
theorem signW_mod (b : Int) (h0 : 0 ≤ b) (h1 : b ≤ 255) : signW b % 256 = b := by unfold signW; split <;> omega
theorem fits_signW (b : Int) (h0 : 0 ≤ b) (h1 : b ≤ 255) : fitsB (signW b) = true := by unfold fitsB; rw [signW_mod b h0 h1]; simp
theorem reps3 (n : Int) : repsOf n = 0 ∨ repsOf n = 1 ∨ repsOf n = 2 := by unfold repsOf; split; simp; split <;> simp
/-- Whatever numbers, where no operand must lie in memory. -/
theorem near_may (x : Inst) (r : IRow) (hr : instRow x.op (x.reg % 8) = some r) (hr2 : r.mod = false → instRow x.op 0 = some r) (h1 : r.a ≠ 19) (h2 : r.b ≠ 19) (h3 : r.b ≠ 20) :
    mayB (nearR x r) = true ∧ instRow (nearR x r).op (nearR x r).reg = some r := by
  have hrow : instRow (nearR x r).op (nearR x r).reg = some r := by
    show instRow x.op (if r.mod then x.reg % 8 else 0) = some r
    cases hm : r.mod with
    | true => exact hr
    | false => exact hr2 hm
  refine ⟨?_, hrow⟩
  unfold mayB
  rw [hrow]
  dsimp only
  rw [behindB_tail]
  have hs : secondB (nearR x r) r = true := by
    unfold secondB nearR
    cases hm : r.mod with
    | false => simp
    | true =>
      simp only [Bool.true_eq_false, if_false, if_true]
      rw [if_neg (by simp [h1, h2, h3])]
      unfold nearDisp
      have hd : dispsOf (x.mod % 4) (x.rm % 8) = 0 ∨ dispsOf (x.mod % 4) (x.rm % 8) = 1 ∨ dispsOf (x.mod % 4) (x.rm % 8) = 2 := by unfold dispsOf; split; simp; split <;> simp
      rcases hd with e | e | e <;> rw [e] <;> simp
      exact fits_signW _ (by omega) (by omega)
  have hb : (tailB (nearR x r).imm (nearR x r).sel r.name (tailOf r)).getD ((nearR x r).imm == 0 && (nearR x r).sel == 0) = true := by
    show (tailB (nearImm (tailOf r) r.name x.imm) (nearSel (tailOf r) x.sel) r.name (tailOf r)).getD (nearImm (tailOf r) r.name x.imm == 0 && nearSel (tailOf r) x.sel == 0) = true
    generalize tailOf r = k
    unfold tailB nearImm nearSel
    by_cases k6 : k = 6
    · subst k6
      by_cases h7 : r.name = 70 ∨ r.name = 71
      · simp [h7]
      · have a1 : r.name ≠ 70 := fun e => h7 (Or.inl e)
        have a2 : r.name ≠ 71 := fun e => h7 (Or.inr e)
        simp [h7, a1, a2]
        omega
    · by_cases k8 : k = 8 ∨ k = 9
      · have : k ≠ 11 := by omega
        simp [k6, k8, this]
        exact fits_signW _ (by omega) (by omega)
      · by_cases k7 : k = 7 ∨ k = 10 ∨ k = 12 ∨ k = 13
        · have : k ≠ 11 := by omega
          simp [k6, k8, k7, this]
        · by_cases k11 : k = 11
          · subst k11; simp
          · simp [k6, k8, k7, k11]
  have hp : prefixesB (nearR x r) r = true := by
    unfold prefixesB nearR nearRep nearSeg
    dsimp only
    rcases reps3 r.name with e | e | e <;> rw [e] <;> simp <;> repeat' split
    all_goals (first | (simp; omega) | omega | simp)
  rw [hs, hb, hp]
  rfl
/-- An instruction of one name is looked for: one try. -/
def tryOp (x : Inst) (k : Nat) : Int := (x.op + k) % 256
def tryReg (x : Inst) (n : Nat) : Int := (x.reg % 8 + n) % 8
def tryI (x : Inst) (k n : Nat) : Inst := nearI { x with op := tryOp x k, reg := tryReg x n }
def tryOk (x : Inst) (lo hi : Int) (k n : Nat) : Bool :=
  decide (lo ≤ ((instRow (tryI x k n).op (tryI x k n).reg).getD ⟨0, 0, 0, false⟩).name) && decide (((instRow (tryI x k n).op (tryI x k n).reg).getD ⟨0, 0, 0, false⟩).name ≤ hi) && ((tryI x k n).op == tryOp x k)
/-- There is such a one. -/
theorem try_row (x : Inst) (lo hi : Int) (k n : Nat) (op reg : Int) (hop : tryOp x k = op) (hreg : reg = tryReg x n) (r : IRow) (hr : instRow op reg = some r) (hr2 : r.mod = false → instRow op 0 = some r) (h1 : r.a ≠ 19) (h2 : r.b ≠ 19) (h3 : r.b ≠ 20) (h4 : lo ≤ r.name) (h5 : r.name ≤ hi) : tryOk x lo hi k n = true := by
  have g0 : 0 ≤ tryReg x n ∧ tryReg x n ≤ 7 := by unfold tryReg; omega
  have hm : tryReg x n % 8 = tryReg x n := by omega
  have hx := near_may { x with op := tryOp x k, reg := tryReg x n } r (by dsimp only; rw [hm, hop, ← hreg]; exact hr) (by dsimp only; rw [hop]; exact hr2) h1 h2 h3
  have e : tryI x k n = nearR { x with op := tryOp x k, reg := tryReg x n } r := by
    unfold tryI nearI
    dsimp only
    rw [hm, hop, ← hreg, hr]
    dsimp only
    rw [hop, ← hreg] at hx
    rw [hx.1, if_pos rfl]
  unfold tryOk
  rw [e, hx.2, Option.getD_some]
  simp [h4, h5, nearR]
theorem tryOp_at (x : Inst) (h0 : 0 ≤ x.op) (h1 : x.op ≤ 255) (op : Nat) (h : op < 256) : tryOp x (((op : Int) - x.op) % 256).toNat = op := by unfold tryOp; omega
theorem tryReg_at (x : Inst) (g : Nat) (h : g < 8) : tryReg x (((g : Int) - x.reg % 8) % 8).toNat = g := by unfold tryReg; omega
end Go.Proofs.YtcglkefaopgjeaaGreatDoor

/- What the reference's May says of its near instruction: plain laws, no walk. -/
namespace Go.Proofs.YtcglkefaopgjeaaGreatDoor
set_option linter.unusedSimpArgs false
set_option linter.unusedVariables false
open Go.RowKit

def rowOk2 (op : Int) (r : IRow) : Bool := decide (1 ≤ r.name) && decide (r.name ≤ 95) && decide (0 ≤ r.a) && decide (r.a ≤ 24) && decide (0 ≤ r.b) && decide (r.b ≤ 24) && (r.a != 20) && (r.mod || decide (isaOf op 0 = some r))
theorem rows_ok2 : ∀ op : Fin 256, ∀ reg : Fin 8, (match isaOf (op.val : Nat) (reg.val : Nat) with | none => true | some r => rowOk2 (op.val : Nat) r) = true := by decide +kernel
structure RowFine (op : Int) (r : IRow) : Prop where
  n0 : 1 ≤ r.name
  n1 : r.name ≤ 95
  a0 : 0 ≤ r.a
  a1 : r.a ≤ 24
  b0 : 0 ≤ r.b
  b1 : r.b ≤ 24
  a20 : r.a ≠ 20
  alone : r.mod = false → isaOf op 0 = some r
theorem row_fine {op reg : Int} {r : IRow} (h0 : 0 ≤ op) (h1 : op ≤ 255) (g0 : 0 ≤ reg) (g1 : reg ≤ 7) (h : isaOf op reg = some r) : RowFine op r := by
  obtain ⟨a, rfl⟩ := Int.eq_ofNat_of_zero_le h0
  obtain ⟨b, rfl⟩ := Int.eq_ofNat_of_zero_le g0
  have := rows_ok2 ⟨a, by omega⟩ ⟨b, by omega⟩
  rw [show ((⟨a, by omega⟩ : Fin 256).val) = a from rfl, show ((⟨b, by omega⟩ : Fin 8).val) = b from rfl, h] at this
  simp only [rowOk2, Bool.and_eq_true, decide_eq_true_eq, bne_iff_ne, Bool.or_eq_true] at this
  obtain ⟨⟨⟨⟨⟨⟨⟨x1, x2⟩, x3⟩, x4⟩, x5⟩, x6⟩, x7⟩, x8⟩ := this
  exact ⟨x1, x2, x3, x4, x5, x6, x7, fun hm => by rcases x8 with e | e; rw [e] at hm; cases hm; exact e⟩
theorem instRow_some {op reg : Int} {r : IRow} (h : instRow op reg = some r) : isPre op = false ∧ isaOf op reg = some r := by
  unfold instRow at h
  split at h
  · cases h
  · next e => exact ⟨by simpa using e, h⟩
theorem instRow_alone {op reg : Int} {r : IRow} (h0 : 0 ≤ op) (h1 : op ≤ 255) (g0 : 0 ≤ reg) (g1 : reg ≤ 7) (h : instRow op reg = some r) (hm : r.mod = false) : instRow op 0 = some r := by
  have hp := instRow_some h
  rw [instRow, hp.1, if_neg (by decide)]
  exact (row_fine h0 h1 g0 g1 hp.2).alone hm
/-- An operand in memory is asked for, and there is none. -/
def noMem (mod : Int) (r : IRow) : Bool := r.mod && (mod == 3 && (r.a == 19 || r.a == 20 || r.b == 19 || r.b == 20))
/-- What May asks for beside that. -/
structure Nearly (i : Inst) (r : IRow) : Prop where
  wf : i.wf
  rep : i.rep = 0 ∨ (i.rep = 1 ∧ repsOf r.name = 2) ∨ (i.rep = 2 ∧ 1 ≤ repsOf r.name)
  seg : 0 ≤ i.seg ∧ i.seg ≤ 4
  none : r.mod = false → i.mod = 0 ∧ i.reg = 0 ∧ i.rm = 0 ∧ i.disp = 0
  d0 : r.mod = true → dispsOf i.mod i.rm = 0 → i.disp = 0
  d1 : r.mod = true → dispsOf i.mod i.rm = 1 → fitsB i.disp = true
  tail : (tailB i.imm i.sel r.name (tailOf r)).getD (i.imm == 0 && i.sel == 0) = true
theorem nearly_near (x : Inst) (h : x.kinds) (r : IRow) : Nearly (nearR x r) r := by
  refine ⟨(nearR_wf x h r).1, ?_, (nearR_wf x h r).2.2, ?_, ?_, ?_, ?_⟩
  · unfold nearR nearRep
    dsimp only
    rcases reps3 r.name with e | e | e <;> rw [e] <;> simp <;> repeat' split
    all_goals omega
  · intro hm; unfold nearR; simp [hm]
  · intro hm hd; unfold nearR at hd ⊢; simp only [hm, if_true] at hd ⊢; unfold nearDisp; rw [hd]; simp
  · intro hm hd; unfold nearR at hd ⊢; simp only [hm, if_true] at hd ⊢; unfold nearDisp; rw [hd]; simp; exact fits_signW _ (by omega) (by omega)
  · show (tailB (nearImm (tailOf r) r.name x.imm) (nearSel (tailOf r) x.sel) r.name (tailOf r)).getD (nearImm (tailOf r) r.name x.imm == 0 && nearSel (tailOf r) x.sel == 0) = true
    generalize tailOf r = k
    unfold tailB nearImm nearSel
    by_cases k6 : k = 6
    · subst k6
      by_cases h7 : r.name = 70 ∨ r.name = 71
      · simp [h7]
      · have a1 : r.name ≠ 70 := fun e => h7 (Or.inl e)
        have a2 : r.name ≠ 71 := fun e => h7 (Or.inr e)
        simp [h7, a1, a2]
        omega
    · by_cases k8 : k = 8 ∨ k = 9
      · have : k ≠ 11 := by omega
        simp [k6, k8, this]
        exact fits_signW _ (by omega) (by omega)
      · by_cases k7 : k = 7 ∨ k = 10 ∨ k = 12 ∨ k = 13
        · have : k ≠ 11 := by omega
          simp [k6, k8, k7, this]
        · by_cases k11 : k = 11
          · subst k11; simp
          · simp [k6, k8, k7, k11]
theorem mayB_nearly (i : Inst) (r : IRow) (h : Nearly i r) (hr : instRow i.op i.reg = some r) (ha : r.a ≠ 20) : mayB i = !noMem i.mod r := by
  unfold mayB
  rw [hr]
  dsimp only
  rw [behindB_tail, h.tail, Bool.and_true]
  have hp : prefixesB i r = true := by
    unfold prefixesB
    have := h.seg
    rcases h.rep with e | ⟨e, e2⟩ | ⟨e, e2⟩ <;> simp [*]
  rw [hp, Bool.and_true]
  unfold secondB noMem
  cases hm : r.mod with
  | false =>
    obtain ⟨q1, q2, q3, q4⟩ := h.none hm
    simp [q1, q2, q3, q4]
  | true =>
    have ha2 : (r.a == 20) = false := by simpa using ha
    rw [if_neg (by decide), ha2, Bool.or_false, Bool.true_and]
    cases hb : (i.mod == 3 && (r.a == 19 || r.b == 19 || r.b == 20)) with
    | true => rfl
    | false =>
      rw [if_neg (by decide)]
      have hd : dispsOf i.mod i.rm = 0 ∨ dispsOf i.mod i.rm = 1 ∨ dispsOf i.mod i.rm = 2 := by unfold dispsOf; split; simp; split <;> simp
      rcases hd with e | e | e
      · rw [e, if_pos rfl, h.d0 hm e]; rfl
      · rw [e, if_neg (by decide), if_pos rfl, h.d1 hm e]; rfl
      · rw [e, if_neg (by decide), if_neg (by decide)]; rfl
end Go.Proofs.YtcglkefaopgjeaaGreatDoor

/- The reference's May: walk. -/
namespace Go.Proofs.YtcglkefaopgjeaaGreatDoor
set_option linter.unusedSimpArgs false
set_option linter.unusedVariables false
open Go.RowKit

set_option maxRecDepth 100000 in
set_option maxHeartbeats 6400000 in
theorem may_any5 (i : Inst) (r : IRow) (h : Nearly i r) (hr : instRow i.op i.reg = some r) (w : World) : Calls Tryz.prog 48 #[i.val] w fun e w' => e = .returned (.bool (!noMem i.mod r)) ∧ Below w.heap.size w w' := by
  have hf := row_fine h.wf.op.1 h.wf.op.2 h.wf.reg.1 h.wf.reg.2 (instRow_some hr).2
  have HRow := Lib.hid (fun w => row_any5 i w h.wf.op.1 h.wf.op.2 h.wf.reg.1 h.wf.reg.2)
  rw [hr] at HRow
  have HRep : ∀ w, Calls Tryz.prog 47 #[.int .i64 r.name] w fun e w' => e = .returned (.int .i64 (repsOf r.name)) ∧ w = w' := by
    intro w
    have := repeats_any4 r.name.toNat (by have := hf.n1; omega) w
    rwa [Int.toNat_of_nonneg (by have := hf.n0; omega)] at this
  obtain ⟨lock, rep, seg, op, mod, reg, rm, disp, imm, sel⟩ := i
  obtain ⟨rn, ra, rb, rmod⟩ := r
  have hw := h.wf
  have e1 := h.rep
  have e2 := h.seg
  have e3 := h.none
  have e4 := h.d0
  have e5 := h.d1
  have e6 := h.tail
  have w1 := hw.mod
  have w2 := hw.reg
  have w3 := hw.rm
  have w4 := hw.disp
  have w5 := hw.imm
  have w6 := hw.sel
  dsimp only at e1 e2 e3 e4 e5 e6 w1 w2 w3 w4 w5 w6 HRep HRow
  obtain ⟨nr, hnr⟩ : ∃ n, repsOf rn = n := ⟨_, rfl⟩
  rw [hnr] at e1
  simp only [hnr] at HRep
  have HREP := Lib.hid HRep
  clear hnr HRep hr hf hw h
  have E1 := Lib.hid e1
  have E3 := Lib.hid e3
  have E4 := Lib.hid e4
  have E5 := Lib.hid e5
  have E6 := Lib.hid e6
  clear e1 e3 e4 e5 e6
  have hi0 := Row.new w #[.bool lock, .int .i64 rep, .int .i64 seg, .int .u8 op, .int .i64 mod, .int .i64 reg, .int .i64 rm, .int .u16 disp, .int .u16 imm, .int .u16 sel] 30
  have HI0 := Lib.hid hi0
  have xi0 := hi0.cell
  have HB0 := Lib.hid ((Below.refl w.heap.size w).alloc (Nat.le_refl _) (.cells #[.bool lock, .int .i64 rep, .int .i64 seg, .int .u8 op, .int .i64 mod, .int .i64 reg, .int .i64 rm, .int .u16 disp, .int .u16 imm, .int .u16 sel] 30))
  clear hi0
  have g1 : ¬ seg < 0 := by omega
  have g2 : ¬ 4 < seg := by omega
  go_enter Tryz.func48, Tryz.ntmps48
  go_wp2_with fail
  generalize w.alloc (.cells #[.bool lock, .int .i64 rep, .int .i64 seg, .int .u8 op, .int .i64 mod, .int .i64 reg, .int .i64 rm, .int .u16 disp, .int .u16 imm, .int .u16 sel] 30) = W0 at *
  refine (HRow.out _).mono ?_
  rw [rowV_some]
  rintro e w1' ⟨rfl, hb⟩; dsimp only
  have HB1 := Lib.hid ((HB0.out.trans (hb.mono HB0.out.size)).alloc (Nat.le_trans HB0.out.size hb.size) (.cells #[.int .i64 rn, .int .i64 ra, .int .i64 rb, .bool rmod] 47))
  have hi1 := (Below.row hb HI0.out HI0.out.lt).alloc (.cells #[.int .i64 rn, .int .i64 ra, .int .i64 rb, .bool rmod] 47)
  have hx1 := Row.new w1' #[.int .i64 rn, .int .i64 ra, .int .i64 rb, .bool rmod] 47
  clear hb xi0
  go_upto_region 2 with fail
  generalize w1'.alloc (.cells #[.int .i64 rn, .int .i64 ra, .int .i64 rb, .bool rmod] 47) = W1 at HB1 hi1 hx1 ⊢
  have xi := hi1.cell
  have xr := hx1.cell
  clear hi1 hx1
  go_wp2_with fail
  refine (HREP.out _).mono ?_
  rintro e w2' ⟨rfl, rfl⟩; dsimp only
  go_upto_region 5 with fail
  go_cut [53] (fun s53 wx => s53 = .bool false ∧ W1 = wx)
  case first =>
    have r1 : ¬ rep < 0 := by have := E1.out; omega
    have r2 : ¬ 2 < rep := by have := E1.out; omega
    rcases E1.out with e | ⟨e, e2⟩ | ⟨e, e2⟩
    · subst e
      as_aux_lemma => (go_wp2_with fail; go_meet; exact ⟨rfl, rfl⟩)
    · subst e e2
      as_aux_lemma => (go_wp2_with fail; go_meet; exact ⟨rfl, rfl⟩)
    · subst e
      have r3 : ¬ nr < 1 := by omega
      as_aux_lemma => (go_wp2_with fail; go_meet; exact ⟨rfl, rfl⟩)
  case rest =>
    obtain ⟨rfl, rfl⟩ := hcut
    go_upto_if 56 with fail
    go_cut [] (fun wx => W1 = wx ∧ noMem mod ⟨rn, ra, rb, rmod⟩ = false)
    case first =>
      cases rmod with
      | false =>
        obtain ⟨rfl, rfl, rfl, rfl⟩ := E3.out rfl
        as_aux_lemma => (go_wp2_with fail; go_meet; exact ⟨rfl, rfl⟩)
      | true =>
        have m1 : ¬ mod < 0 := by omega
        have m2 : ¬ 3 < mod := by omega
        have m3 : ¬ reg < 0 := by omega
        have m4 : ¬ 7 < reg := by omega
        have m5 : ¬ rm < 0 := by omega
        have m6 : ¬ 7 < rm := by omega
        by_cases h3 : mod = 3
        · have HM := Lib.hid h3
          have k3 : (mod == 3) = true := by simp [h3]
          have hdd : dispsOf mod rm = 0 := by rw [h3]; rfl
          have HD := Lib.hid hdd
          have hz := E4.out rfl hdd
          subst hz
          clear h3 hdd
          obtain ⟨b1, v1⟩ : ∃ b, (ra == 19) = b := ⟨_, rfl⟩
          obtain ⟨b2, v2⟩ : ∃ b, (ra == 20) = b := ⟨_, rfl⟩
          obtain ⟨b3, v3⟩ : ∃ b, (rb == 19) = b := ⟨_, rfl⟩
          obtain ⟨b4, v4⟩ : ∃ b, (rb == 20) = b := ⟨_, rfl⟩
          have HN := Lib.hid (show noMem mod ⟨rn, ra, rb, true⟩ = (b1 || b2 || b3 || b4) by unfold noMem; rw [k3]; dsimp only; rw [v1, v2, v3, v4]; simp)
          cases b1 with
          | true => as_aux_lemma => (go_wp2_with fail; go_ret; rw [HN.out]; exact ⟨rfl, HB1.out⟩)
          | false =>
          cases b2 with
          | true => as_aux_lemma => (go_wp2_with fail; go_ret; rw [HN.out]; exact ⟨rfl, HB1.out⟩)
          | false =>
          cases b3 with
          | true => as_aux_lemma => (go_wp2_with fail; go_ret; rw [HN.out]; exact ⟨rfl, HB1.out⟩)
          | false =>
          cases b4 with
          | true => as_aux_lemma => (go_wp2_with fail; go_ret; rw [HN.out]; exact ⟨rfl, HB1.out⟩)
          | false =>
            as_aux_lemma => (go_wp2_with (go_at_call 44; refine (disps_any5 _ _ _).mono ?_; rw [HD.out]; rintro e w' ⟨rfl, rfl⟩); go_meet; exact ⟨rfl, HN.out⟩)
        · have k3 : (mod == 3) = false := by simp [h3]
          have HN := Lib.hid (show noMem mod ⟨rn, ra, rb, true⟩ = false by unfold noMem; rw [k3]; rfl)
          clear h3
          obtain ⟨dd, hdd⟩ : ∃ dd, dispsOf mod rm = dd := ⟨_, rfl⟩
          have hd3 : dd = 0 ∨ dd = 1 ∨ dd = 2 := by rw [← hdd]; exact disps3 _ _
          have HD := Lib.hid hdd
          rcases hd3 with rfl | rfl | rfl
          · have hz := E4.out rfl hdd
            subst hz
            clear hdd
            as_aux_lemma => (go_wp2_with (go_at_call 44; refine (disps_any5 _ _ _).mono ?_; rw [HD.out]; rintro e w' ⟨rfl, rfl⟩); go_meet; exact ⟨rfl, HN.out⟩)
          · have HF := Lib.hid (E5.out rfl hdd)
            clear hdd
            as_aux_lemma => (go_wp2_with (first | (go_at_call 44; refine (disps_any5 _ _ _).mono ?_; rw [HD.out]; rintro e w' ⟨rfl, rfl⟩) | (go_at_call 96; refine (fits_any1 _ _ w4.1 w4.2).mono ?_; rw [HF.out]; rintro e w' ⟨rfl, rfl⟩)); go_meet; exact ⟨rfl, HN.out⟩)
          · clear hdd
            as_aux_lemma => (go_wp2_with (go_at_call 44; refine (disps_any5 _ _ _).mono ?_; rw [HD.out]; rintro e w' ⟨rfl, rfl⟩); go_meet; exact ⟨rfl, HN.out⟩)
    case rest =>
      obtain ⟨rfl, hno⟩ := hcut
      have HNO := Lib.hid hno
      clear hno
      go_wp2_with fail
      refine (bytes_any4 _ _).mono ?_
      have HT := Lib.hid (show tailOf ⟨rn, ra, rb, rmod⟩ = if immOf ra = 0 then rb else ra from rfl)
      generalize immOf ra = ia at HT ⊢
      rintro e w3' ⟨rfl, rfl⟩; dsimp only
      go_upto_if 152 with fail
      go_cut [7] (fun s7 wx => W1 = wx ∧ s7 = .int .i64 (tailOf ⟨rn, ra, rb, rmod⟩))
      case first =>
        by_cases hz : ia = 0
        · subst hz
          as_aux_lemma => (go_wp2_with fail; go_meet; rw [HT.out, if_pos trivial]; exact ⟨rfl, rfl⟩)
        · have kz : (ia == 0) = false := by simp [hz]
          have HZ := Lib.hid hz
          clear hz
          as_aux_lemma => (go_wp2_with fail; go_meet; rw [HT.out, if_neg HZ.out]; exact ⟨rfl, rfl⟩)
      case rest =>
        obtain ⟨rfl, rfl⟩ := hcut
        clear HT
        generalize tailOf ⟨rn, ra, rb, rmod⟩ = k at E6 ⊢
        by_cases k6 : k = 6
        · subst k6
          have ht := E6.out
          simp only [tailB, if_true, Option.getD_some, Bool.and_eq_true, Bool.or_eq_true, decide_eq_true_eq, beq_iff_eq, bne_iff_ne, ne_eq] at ht
          obtain ⟨⟨t1, t2⟩, t3⟩ := ht
          subst t2
          by_cases ha : rn = 70
          · have n1 : (rn != 70) = false := by simp [ha]
            have hi : imm = 10 := by rcases t3 with t3 | t3; exact absurd ha t3.1; exact t3
            subst hi
            clear ha t3
            as_aux_lemma => (go_wp2_with fail; go_ret; rw [HNO.out]; exact ⟨rfl, HB1.out⟩)
          · have n1 : (rn != 70) = true := by simp [ha]
            by_cases hb : rn = 71
            · have n2 : (rn != 71) = false := by simp [hb]
              have hi : imm = 10 := by rcases t3 with t3 | t3; exact absurd hb t3.2; exact t3
              subst hi
              clear ha hb t3
              as_aux_lemma => (go_wp2_with fail; go_ret; rw [HNO.out]; exact ⟨rfl, HB1.out⟩)
            · have n2 : (rn != 71) = true := by simp [hb]
              clear ha hb t3
              as_aux_lemma => (go_wp2_with fail; go_ret; rw [HNO.out]; exact ⟨rfl, HB1.out⟩)
        · by_cases k8 : k = 8 ∨ k = 9
          · have ht := E6.out
            rw [tailB, if_neg k6, if_pos k8] at ht
            simp only [Option.getD_some, Bool.and_eq_true, beq_iff_eq] at ht
            obtain ⟨t1, t2⟩ := ht
            subst t2
            have HF := Lib.hid t1
            clear t1
            rcases k8 with rfl | rfl
            · as_aux_lemma => (go_wp2_with (go_at_call 96; refine (fits_any1 _ _ w5.1 w5.2).mono ?_; rw [HF.out]; rintro e w' ⟨rfl, rfl⟩); go_ret; rw [HNO.out]; exact ⟨rfl, HB1.out⟩)
            · as_aux_lemma => (go_wp2_with (go_at_call 96; refine (fits_any1 _ _ w5.1 w5.2).mono ?_; rw [HF.out]; rintro e w' ⟨rfl, rfl⟩); go_ret; rw [HNO.out]; exact ⟨rfl, HB1.out⟩)
          · by_cases k7 : k = 7 ∨ k = 10 ∨ k = 12 ∨ k = 13
            · have ht := E6.out
              rw [tailB, if_neg k6, if_neg k8, if_pos k7] at ht
              simp only [Option.getD_some, beq_iff_eq] at ht
              subst ht
              clear k6 k8
              rcases k7 with rfl | rfl | rfl | rfl
              · as_aux_lemma => (go_wp2_with fail; go_ret; rw [HNO.out]; exact ⟨rfl, HB1.out⟩)
              · as_aux_lemma => (go_wp2_with fail; go_ret; rw [HNO.out]; exact ⟨rfl, HB1.out⟩)
              · as_aux_lemma => (go_wp2_with fail; go_ret; rw [HNO.out]; exact ⟨rfl, HB1.out⟩)
              · as_aux_lemma => (go_wp2_with fail; go_ret; rw [HNO.out]; exact ⟨rfl, HB1.out⟩)
            · by_cases k11 : k = 11
              · subst k11
                as_aux_lemma => (go_wp2_with fail; go_ret; rw [HNO.out]; exact ⟨rfl, HB1.out⟩)
              · have ht := E6.out
                rw [tailB, if_neg k6, if_neg k8, if_neg k7, if_neg k11] at ht
                simp only [Option.getD_none, Bool.and_eq_true, beq_iff_eq] at ht
                obtain ⟨t1, t2⟩ := ht
                subst t1 t2
                have q1 : (k == 6) = false := by simp; omega
                have q2 : (k == 8) = false := by simp; omega
                have q3 : (k == 9) = false := by simp; omega
                have q4 : (k == 7) = false := by simp; omega
                have q5 : (k == 10) = false := by simp; omega
                have q6 : (k == 12) = false := by simp; omega
                have q7 : (k == 13) = false := by simp; omega
                have q8 : (k == 11) = false := by simp; omega
                clear k6 k8 k7 k11
                as_aux_lemma => (go_wp2_with fail; go_ret; rw [HNO.out]; exact ⟨rfl, HB1.out⟩)
end Go.Proofs.YtcglkefaopgjeaaGreatDoor

/- The reference's instruction near any numbers: walk. -/
namespace Go.Proofs.YtcglkefaopgjeaaGreatDoor
set_option linter.unusedSimpArgs false
set_option linter.unusedVariables false
open Go.RowKit

theorem setI_row {w : World} {g : Nat} {a0 a1 a2 a3 a4 a5 a6 a7 a8 a9 : Value} (h : Row w g #[a0, a1, a2, a3, a4, a5, a6, a7, a8, a9] 30) (j : Nat) (v : Value) : Row (w.setCell ⟨g, j, none⟩ v) g (#[a0, a1, a2, a3, a4, a5, a6, a7, a8, a9].setIfInBounds j v) 30 := h.setCell j v
/-- What Near has at its steps: its argument's box, its result's, its row's. -/
structure NearAt (w wx : World) (x i : Inst) (r : IRow) (kr : Nat) : Prop where
  b : Below w.heap.size w wx
  x : Row wx w.heap.size x.cells 30
  i : Row wx (w.heap.size + 1) i.cells 30
  r : Row wx kr #[.int .i64 r.name, .int .i64 r.a, .int .i64 r.b, .bool r.mod] 47
  k : w.heap.size + 1 < kr
theorem NearAt.set {w wx : World} {x i : Inst} {r : IRow} {kr : Nat} (h : NearAt w wx x i r kr) (j : Nat) (v : Value) (i2 : Inst) (he : i.cells.setIfInBounds j v = i2.cells) : NearAt w (wx.setCell ⟨w.heap.size + 1, j, none⟩ v) x i2 r kr :=
  ⟨h.b.setCell (p := ⟨w.heap.size + 1, j, none⟩) (Nat.le_succ _) _, h.x.setCell_other _ _ (by simp), he ▸ h.i.setCell j v, h.r.setCell_other _ _ (by have := h.k; simp; omega), h.k⟩
theorem NearAt.on {w wx wy : World} {x i : Inst} {r : IRow} {kr : Nat} (h : NearAt w wx x i r kr) (hb : Below wx.heap.size wx wy) : NearAt w wy x i r kr :=
  ⟨h.b.trans (hb.mono h.b.size), Below.row hb h.x h.x.lt, Below.row hb h.i h.i.lt, Below.row hb h.r h.r.lt, h.k⟩
theorem NearAt.drew {w wx : World} {x i : Inst} {r : IRow} {kr : Nat} (h : NearAt w wx x i r kr) : NearAt w wx.drew x i r kr := h.on (Below.refl _ _).drew

theorem i64_and3 (n : Int) : bits .and .i64 n 3 = n % 4 := by
  have h7 : (BitVec.ofInt 64 3).toNat = 2 ^ 2 - 1 := by decide
  have key : (BitVec.ofInt 64 n &&& BitVec.ofInt 64 3).toNat = (n % ((2 ^ 64 : Nat) : Int)).toNat % 2 ^ 2 := by
    rw [BitVec.toNat_and, BitVec.toNat_ofInt, h7, Nat.and_two_pow_sub_one_eq_mod]
  show IntKind.i64.wrap ((BitVec.ofInt 64 n &&& BitVec.ofInt 64 3).toNat : Nat) = n % 4
  rw [key, IntKind.wrap_i64]
  omega
theorem i64_and1 (n : Int) : bits .and .i64 n 1 = n % 2 := by
  have h7 : (BitVec.ofInt 64 1).toNat = 2 ^ 1 - 1 := by decide
  have key : (BitVec.ofInt 64 n &&& BitVec.ofInt 64 1).toNat = (n % ((2 ^ 64 : Nat) : Int)).toNat % 2 ^ 1 := by
    rw [BitVec.toNat_and, BitVec.toNat_ofInt, h7, Nat.and_two_pow_sub_one_eq_mod]
  show IntKind.i64.wrap ((BitVec.ofInt 64 n &&& BitVec.ofInt 64 1).toNat : Nat) = n % 2
  rw [key, IntKind.wrap_i64]
  omega
/-- What begins Near's steps. -/
theorem nearAt_new {w w1 : World} {x i : Inst} (r : IRow) (hb : Below ((w.alloc (.cells x.cells 30)).alloc (.cells i.cells 30)).heap.size ((w.alloc (.cells x.cells 30)).alloc (.cells i.cells 30)) w1) :
    NearAt w (w1.alloc (.cells #[.int .i64 r.name, .int .i64 r.a, .int .i64 r.b, .bool r.mod] 47)) x i r w1.heap.size := by
  have hz := hb.size
  simp only [World.size_alloc] at hz
  have b0 := ((Below.refl w.heap.size w).alloc (Nat.le_refl _) (.cells x.cells 30)).alloc (by simp) (.cells i.cells 30)
  have b1 := b0.trans (hb.mono (by simp; omega))
  exact ⟨b1.alloc b1.size _, (Below.row hb ((Row.new w x.cells 30).alloc _) (by simp; omega)).alloc _, (Below.row hb (Row.new' (by simp)) (by simp)).alloc _, Row.new _ _ _, by omega⟩

set_option maxRecDepth 100000 in
set_option maxHeartbeats 6400000 in
theorem near_any5 (x : Inst) (h : x.kinds) (w : World) : Calls Tryz.prog 14 #[x.val] w fun e w' => e = .returned (nearI x).val ∧ Below w.heap.size w w' := by
  have n0 : ∀ wx, Calls Tryz.prog 43 #[Inst.val ⟨x.lock, 0, 0, x.op, 0, x.reg % 8, 0, 0, 0, 0⟩] wx fun e w' => e = .returned (rowV (instRow x.op (x.reg % 8))) ∧ Below wx.heap.size wx w' := fun wx =>
    row_any5 ⟨x.lock, 0, 0, x.op, 0, x.reg % 8, 0, 0, 0, 0⟩ wx h.op.1 h.op.2 (by dsimp only; omega) (by dsimp only; omega)
  have a7 : bits BinOp.and IntKind.i64 x.reg 7 = x.reg % 8 := i64_and7 _
  have N0 := Lib.hid n0
  have K := Lib.hid h
  obtain ⟨lock, rep, seg, op, mod, reg, rm, disp, imm, sel⟩ := x
  clear n0 h
  dsimp only at a7
  go_enter Tryz.func14, Tryz.ntmps14
  go_wp2_with fail
  refine (N0.out _).mono ?_
  cases hrow : instRow op (reg % 8) with
  | none =>
    have HE := Lib.hid (show nearI ⟨lock, rep, seg, op, mod, reg, rm, disp, imm, sel⟩ = nopI by unfold nearI; dsimp only; rw [hrow])
    clear hrow
    rw [rowV_none]
    rintro e w1 ⟨rfl, hb⟩; dsimp only
    have hr := Below.row hb (Row.new' (w := w.alloc (.cells (Inst.cells ⟨lock, rep, seg, op, mod, reg, rm, disp, imm, sel⟩) 30)) (n := w.heap.size + 1) (cs := (Inst.cells ⟨lock, 0, 0, op, 0, reg % 8, 0, 0, 0, 0⟩)) (t := 30) (by simp)) (by simp)
    have b0 := ((Below.refl w.heap.size w).alloc (Nat.le_refl _) (.cells (Inst.cells ⟨lock, rep, seg, op, mod, reg, rm, disp, imm, sel⟩) 30)).alloc (by simp) (.cells (Inst.cells ⟨lock, 0, 0, op, 0, reg % 8, 0, 0, 0, 0⟩) 30)
    have HB := Lib.hid (b0.trans (hb.mono (by simp; omega)))
    have HR := Lib.hid hr
    have ci := hr.cell
    have fi := hr.frozen
    have li := hr.lt
    clear hb hr b0
    go_wp2_with fail
    refine bodyPost_ret (v := nopI.val) (results_row rfl _ _ _ _ _ _ rfl ((row_inst nopI HR.out).alloc _) Tryz.underlying30 rfl (by kernel_rfl)) rfl ⟨by rw [HE.out], ?_⟩
    refine Below.alloc ?_ (by simp only [World.size_setCell]; exact HB.out.size) _
    repeat (with_reducible refine Below.setCell ?_ (Nat.le_succ _) _)
    exact HB.out
  | some r =>
    have hf := row_fine K.out.op.1 K.out.op.2 (by omega) (by omega) (instRow_some hrow).2
    have HRW := Lib.hid hrow
    have HF := Lib.hid hf
    obtain ⟨rn, ra, rb, rmod⟩ := r
    rw [rowV_some]
    rintro e w1 ⟨rfl, hb⟩; dsimp only
    have HN1 := Lib.hid (nearAt_new (x := ⟨lock, rep, seg, op, mod, reg, rm, disp, imm, sel⟩) (i := ⟨lock, 0, 0, op, 0, reg % 8, 0, 0, 0, 0⟩) ⟨rn, ra, rb, rmod⟩ hb)
    clear hb hrow hf
    go_upto_if 22 with fail
    generalize w1.alloc (.cells #[.int .i64 rn, .int .i64 ra, .int .i64 rb, .bool rmod] 47) = W1 at HN1 ⊢
    generalize w1.heap.size = kr at HN1 ⊢
    have n1 : ¬ kr = w.heap.size + 1 := by have := HN1.out.k; omega
    have n2 : ¬ w.heap.size + 1 = kr := by omega
    have n3 : ¬ kr = w.heap.size := by have := HN1.out.k; omega
    have n4 : ¬ w.heap.size = kr := by omega
    have cx := HN1.out.x.cell; have ci := HN1.out.i.cell; have fi := HN1.out.i.frozen; have li := HN1.out.i.lt; have cr := HN1.out.r.cell; have lr := HN1.out.r.lt
    go_upto_if 26 with fail
    obtain ⟨I2, hI2⟩ : ∃ I : Inst, (⟨lock, 0, 0, op, if rmod then mod % 4 else 0, if rmod then reg % 8 else 0, if rmod then rm % 8 else 0, if rmod then nearDisp (dispsOf (mod % 4) (rm % 8)) disp else 0, 0, 0⟩ : Inst) = I := ⟨_, rfl⟩
    have HI2 := Lib.hid (fun b : Bool => fun e : rmod = b => (e ▸ hI2.symm : I2 = ⟨lock, 0, 0, op, if b then mod % 4 else 0, if b then reg % 8 else 0, if b then rm % 8 else 0, if b then nearDisp (dispsOf (mod % 4) (rm % 8)) disp else 0, 0, 0⟩))
    clear hI2
    go_cut [] (fun wx => NearAt w wx ⟨lock, rep, seg, op, mod, reg, rm, disp, imm, sel⟩ I2 ⟨rn, ra, rb, rmod⟩ kr)
    case first =>
      cases rmod with
      | false =>
        have HI := Lib.hid (HI2.out false rfl)
        clear HI2
        as_aux_lemma => (go_wp2_with fail; go_meet; exact HN1.out.set 5 _ _ (by rw [HI.out]; rfl))
      | true =>
        have HI := HI2.out true rfl
        simp only [if_true] at HI
        clear HI2
        subst HI
        go_upto_region 8 with fail
        go_cut [] (fun wx => NearAt w wx ⟨lock, rep, seg, op, mod, reg, rm, disp, imm, sel⟩ ⟨lock, 0, 0, op, mod % 4, reg % 8, rm % 8, 0, 0, 0⟩ ⟨rn, ra, rb, true⟩ kr)
        case first =>
          have b3 := i64_and3 mod
          have b7 := i64_and7 rm
          have li2 : ¬ W1.heap.size ≤ w.heap.size + 1 := by omega
          have j1 := (HN1.out.set 4 (.int .i64 (mod % 4)) (⟨lock, 0, 0, op, mod % 4, reg % 8, 0, 0, 0, 0⟩ : Inst) rfl).set 6 (.int .i64 (rm % 8)) ⟨lock, 0, 0, op, mod % 4, reg % 8, rm % 8, 0, 0, 0⟩ rfl
          have j2 := (HN1.out.set 6 (.int .i64 (rm % 8)) (⟨lock, 0, 0, op, 0, reg % 8, rm % 8, 0, 0, 0⟩ : Inst) rfl).set 4 (.int .i64 (mod % 4)) ⟨lock, 0, 0, op, mod % 4, reg % 8, rm % 8, 0, 0, 0⟩ rfl
          have J1 := Lib.hid j1.drew
          have J2 := Lib.hid j2.drew
          clear j1 j2
          go_region
          all_goals
            go_wp2_with fail
            go_meet
            first | (with_reducible exact J1.out) | (with_reducible exact J2.out) | exact J1.out | exact J2.out
        case rest =>
          have HN2 := Lib.hid hcut
          clear cx ci fi li cr lr; clear hcut
          have cx := HN2.out.x.cell; have ci := HN2.out.i.cell; have fi := HN2.out.i.frozen; have li := HN2.out.i.lt; have cr := HN2.out.r.cell; have lr := HN2.out.r.lt
          go_wp2_with fail
          refine (disps_any5 _ _ _).mono ?_
          obtain ⟨dd, hdd⟩ : ∃ dd, dispsOf (mod % 4) (rm % 8) = dd := ⟨_, rfl⟩
          have hd3 := disps3 (mod % 4) (rm % 8)
          rw [hdd] at hd3 ⊢
          have HD := Lib.hid (show nearDisp (dispsOf (mod % 4) (rm % 8)) disp = nearDisp dd disp by rw [hdd])
          clear hdd
          rintro e w2 ⟨rfl, rfl⟩; dsimp only
          have k1 := K.out.disp
          rcases hd3 with rfl | rfl | rfl
          · as_aux_lemma => (go_wp2_with fail; go_meet; rw [HD.out]; exact HN2.out)
          · have hx : (disp.tmod 256) = disp % 256 := Int.tmod_eq_emod_of_nonneg k1.1
            as_aux_lemma => (go_wp2_with (go_at_call 45; refine (sign_any1 _ _ (by omega) (by omega)).mono ?_; rintro e w' ⟨rfl, rfl⟩); go_meet; rw [HD.out]; first | exact HN2.out.set 7 _ _ rfl | trace_state)
          · as_aux_lemma => (go_wp2_with fail; go_meet; rw [HD.out]; exact HN2.out.set 7 _ _ rfl)
    case rest =>
      have HN3 := Lib.hid hcut
      clear cx ci fi li cr lr; clear hcut HN1
      obtain ⟨k, hk⟩ : ∃ k, tailOf ⟨rn, ra, rb, rmod⟩ = k := ⟨_, rfl⟩
      obtain ⟨nr, hnr⟩ : ∃ n, repsOf rn = n := ⟨_, rfl⟩
      obtain ⟨A, B2, C, D, hI, hJ⟩ : ∃ A B C D : Int, I2 = ⟨lock, 0, 0, op, A, B, C, D, 0, 0⟩ ∧ nearR ⟨lock, rep, seg, op, mod, reg, rm, disp, imm, sel⟩ ⟨rn, ra, rb, rmod⟩ = ⟨lock, nearRep rep nr, nearSeg seg, op, A, B, C, D, nearImm k rn imm, nearSel k sel⟩ := ⟨_, _, _, _, HI2.out rmod rfl, by rw [← hk, ← hnr]; rfl⟩
      subst hI
      have HK := Lib.hid (show (if immOf ra = 0 then rb else ra) = k from hk)
      have HJ := Lib.hid hJ
      clear hk hJ HI2
      have HREP := Lib.hid (show ∀ w, Calls Tryz.prog 47 #[.int .i64 rn] w fun e w' => e = .returned (.int .i64 nr) ∧ w = w' by
        intro w
        have := repeats_any4 rn.toNat (by have := HF.out.n1; dsimp only at this; omega) w
        rwa [Int.toNat_of_nonneg (by have := HF.out.n0; dsimp only at this; omega), hnr] at this)
      have HNR := Lib.hid (hnr ▸ reps3 rn : nr = 0 ∨ nr = 1 ∨ nr = 2)
      clear hnr
      have cx := HN3.out.x.cell; have ci := HN3.out.i.cell; have fi := HN3.out.i.frozen; have li := HN3.out.i.lt; have cr := HN3.out.r.cell; have lr := HN3.out.r.lt
      go_wp2_with fail
      refine (bytes_any4 _ _).mono ?_
      generalize immOf ra = ia at HK ⊢
      rintro e w3' ⟨rfl, rfl⟩; dsimp only
      go_upto_if 58 with fail
      go_cut [5] (fun s5 wx => wc = wx ∧ s5 = .int .i64 k)
      case first =>
        by_cases hz : ia = 0
        · have kz : (ia == 0) = true := by simp [hz]
          have HZ := Lib.hid (show rb = k by have := HK.out; rwa [if_pos hz] at this)
          clear hz HK
          as_aux_lemma => (go_wp2_with fail; go_meet; rw [HZ.out]; exact ⟨rfl, rfl⟩)
        · have kz : (ia == 0) = false := by simp [hz]
          have HZ := Lib.hid (show ra = k by have := HK.out; rwa [if_neg hz] at this)
          clear hz HK
          as_aux_lemma => (go_wp2_with fail; go_meet; rw [HZ.out]; exact ⟨rfl, rfl⟩)
      case rest =>
      obtain ⟨rfl, rfl⟩ := hcut
      clear HK
      go_upto_block 1 with fail
      obtain ⟨NI, hNI⟩ : ∃ n, nearImm k rn imm = n := ⟨_, rfl⟩
      obtain ⟨NS, hNS⟩ : ∃ n, nearSel k sel = n := ⟨_, rfl⟩
      rw [hNI, hNS] at HJ
      have HNI0 := Lib.hid hNI
      have HNS0 := Lib.hid hNS
      clear hNI hNS
      go_cut [] (fun wx => NearAt w wx ⟨lock, rep, seg, op, mod, reg, rm, disp, imm, sel⟩ ⟨lock, 0, 0, op, A, B2, C, D, NI, NS⟩ ⟨rn, ra, rb, rmod⟩ kr)
      case first =>
        have k5 := K.out.imm
        have k6' := K.out.sel
        dsimp only at k5 k6'
        have hx : (imm.tmod 256) = imm % 256 := Int.tmod_eq_emod_of_nonneg k5.1
        have hNI := HNI0.out
        have hNS := HNS0.out
        clear HNI0 HNS0
        by_cases k6 : k = 6
        · subst k6
          have hs0 : NS = 0 := by rw [← hNS]; rfl
          subst hs0
          have HNI := Lib.hid (show (if rn = 70 ∨ rn = 71 then 10 else imm % 256) = NI from hNI)
          clear hNI hNS
          by_cases ha : rn = 70
          · have q1 : (rn == 70) = true := by simp [ha]
            have HZ := Lib.hid (show 10 = NI by have := HNI.out; rwa [if_pos (Or.inl ha)] at this)
            clear ha HNI
            as_aux_lemma => (go_wp2_with fail; go_meet; rw [← HZ.out]; exact (HN3.out.set 8 (.int .u16 (imm % 256)) ⟨lock, 0, 0, op, A, B2, C, D, imm % 256, 0⟩ rfl).set 8 _ _ rfl)
          · have q1 : (rn == 70) = false := by simp [ha]
            by_cases hb : rn = 71
            · have q2 : (rn == 71) = true := by simp [hb]
              have HZ := Lib.hid (show 10 = NI by have := HNI.out; rwa [if_pos (Or.inr hb)] at this)
              clear ha hb HNI
              as_aux_lemma => (go_wp2_with fail; go_meet; rw [← HZ.out]; exact (HN3.out.set 8 (.int .u16 (imm % 256)) ⟨lock, 0, 0, op, A, B2, C, D, imm % 256, 0⟩ rfl).set 8 _ _ rfl)
            · have q2 : (rn == 71) = false := by simp [hb]
              have HZ := Lib.hid (show imm % 256 = NI by have := HNI.out; rwa [if_neg (by rintro (e | e); exact ha e; exact hb e)] at this)
              clear ha hb HNI
              as_aux_lemma => (go_wp2_with fail; go_meet; rw [← HZ.out]; exact HN3.out.set 8 _ _ rfl)
        · by_cases k8 : k = 8 ∨ k = 9
          · have hs0 : NS = 0 := by rw [← hNS]; unfold nearSel; rw [if_neg (by omega)]
            have HZ := Lib.hid (show signW (imm % 256) = NI by rw [← hNI]; unfold nearImm; rw [if_neg k6, if_pos k8])
            subst hs0
            clear hNI hNS k6
            rcases k8 with rfl | rfl
            · as_aux_lemma => (go_wp2_with (go_at_call 45; refine (sign_any1 _ _ (by omega) (by omega)).mono ?_; rintro e w' ⟨rfl, rfl⟩); go_meet; rw [← HZ.out]; exact HN3.out.set 8 _ _ rfl)
            · as_aux_lemma => (go_wp2_with (go_at_call 45; refine (sign_any1 _ _ (by omega) (by omega)).mono ?_; rintro e w' ⟨rfl, rfl⟩); go_meet; rw [← HZ.out]; exact HN3.out.set 8 _ _ rfl)
          · by_cases k7 : k = 7 ∨ k = 10 ∨ k = 12 ∨ k = 13
            · have hs0 : NS = 0 := by rw [← hNS]; unfold nearSel; rw [if_neg (by omega)]
              have hi0 : NI = imm := by rw [← hNI]; unfold nearImm; rw [if_neg k6, if_neg k8, if_pos k7]
              subst hs0
              subst hi0
              clear hNI hNS k6 k8
              rcases k7 with rfl | rfl | rfl | rfl
              · as_aux_lemma => (go_wp2_with fail; go_meet; exact HN3.out.set 8 _ _ rfl)
              · as_aux_lemma => (go_wp2_with fail; go_meet; exact HN3.out.set 8 _ _ rfl)
              · as_aux_lemma => (go_wp2_with fail; go_meet; exact HN3.out.set 8 _ _ rfl)
              · as_aux_lemma => (go_wp2_with fail; go_meet; exact HN3.out.set 8 _ _ rfl)
            · by_cases k11 : k = 11
              · subst k11
                have hs0 : NS = sel := by rw [← hNS]; rfl
                have hi0 : NI = imm := by rw [← hNI]; rfl
                subst hs0
                subst hi0
                have j1 := (HN3.out.set 8 (.int .u16 NI) (⟨lock, 0, 0, op, A, B2, C, D, NI, 0⟩ : Inst) rfl).set 9 (.int .u16 NS) ⟨lock, 0, 0, op, A, B2, C, D, NI, NS⟩ rfl
                have j2 := (HN3.out.set 9 (.int .u16 NS) (⟨lock, 0, 0, op, A, B2, C, D, 0, NS⟩ : Inst) rfl).set 8 (.int .u16 NI) ⟨lock, 0, 0, op, A, B2, C, D, NI, NS⟩ rfl
                have J1 := Lib.hid j1.drew
                have J2 := Lib.hid j2.drew
                clear j1 j2 hNI hNS
                have li2 : ¬ wc.heap.size ≤ w.heap.size + 1 := by omega
                go_wp2_with fail
                go_region
                all_goals
                  go_wp2_with fail
                  go_meet
                  first | (with_reducible exact J1.out) | (with_reducible exact J2.out) | exact J1.out | exact J2.out
              · have hs0 : NS = 0 := by rw [← hNS]; unfold nearSel; rw [if_neg k11]
                have hi0 : NI = 0 := by rw [← hNI]; unfold nearImm; rw [if_neg k6, if_neg k8, if_neg k7, if_neg k11]
                subst hs0
                subst hi0
                have q1 : (k == 6) = false := by simp; omega
                have q2 : (k == 8) = false := by simp; omega
                have q3 : (k == 9) = false := by simp; omega
                have q4 : (k == 7) = false := by simp; omega
                have q5 : (k == 10) = false := by simp; omega
                have q6 : (k == 12) = false := by simp; omega
                have q7 : (k == 13) = false := by simp; omega
                have q8 : (k == 11) = false := by simp; omega
                clear k6 k8 k7 k11 hNI hNS
                as_aux_lemma => (go_wp2_with fail; go_meet; exact HN3.out)
      case rest =>
      have HN4 := Lib.hid hcut
      clear cx ci fi li cr lr; clear hcut HN3 HNI0 HNS0
      have cx := HN4.out.x.cell; have ci := HN4.out.i.cell; have fi := HN4.out.i.frozen; have li := HN4.out.i.lt; have cr := HN4.out.r.cell; have lr := HN4.out.r.lt
      go_wp2_with fail
      refine (HREP.out _).mono ?_
      rintro e w4' ⟨rfl, rfl⟩; dsimp only
      clear HREP
      have b3 := i64_and3 rep
      have b1 := i64_and1 rep
      have b7 := i64_and7 seg
      go_upto_region 33 with fail
      obtain ⟨bD, hbD⟩ : ∃ b, decide (0 < nr ∧ 0 < rep % 4) = b := ⟨_, rfl⟩
      have HBD := Lib.hid hbD
      clear hbD
      go_cut [112] (fun s112 wx => wc = wx ∧ s112 = .bool bD)
      case first =>
        by_cases q1 : 0 < nr
        · by_cases q2 : 0 < rep % 4
          · have HZ := Lib.hid (show true = bD by rw [← HBD.out]; exact (decide_eq_true ⟨q1, q2⟩).symm)
            as_aux_lemma => (go_wp2_with fail; go_meet; rw [← HZ.out]; exact ⟨rfl, rfl⟩)
          · have HZ := Lib.hid (show false = bD by rw [← HBD.out]; exact (decide_eq_false (fun e => q2 e.2)).symm)
            as_aux_lemma => (go_wp2_with fail; go_meet; rw [← HZ.out]; exact ⟨rfl, rfl⟩)
        · have HZ := Lib.hid (show false = bD by rw [← HBD.out]; exact (decide_eq_false (fun e => q1 e.1)).symm)
          as_aux_lemma => (go_wp2_with fail; go_meet; rw [← HZ.out]; exact ⟨rfl, rfl⟩)
      case rest =>
      obtain ⟨rfl, rfl⟩ := hcut
      go_upto_if 112 with fail
      obtain ⟨NR, hNR⟩ : ∃ n, nearRep rep nr = n := ⟨_, rfl⟩
      rw [hNR] at HJ
      have HNR0 := Lib.hid hNR
      clear hNR
      go_cut [] (fun wx => NearAt w wx ⟨lock, rep, seg, op, mod, reg, rm, disp, imm, sel⟩ ⟨lock, NR, 0, op, A, B2, C, D, NI, NS⟩ ⟨rn, ra, rb, rmod⟩ kr)
      case first =>
        cases bD with
        | false =>
          have HZ := Lib.hid (show 0 = NR by rw [← HNR0.out]; unfold nearRep; rw [if_neg (of_decide_eq_false HBD.out)])
          clear HNR0 HBD
          as_aux_lemma => (go_wp2_with fail; go_meet; rw [← HZ.out]; exact HN4.out)
        | true =>
          have hN : (if nr = 2 ∧ rep % 2 = 1 then 1 else 2) = NR := by rw [← HNR0.out]; unfold nearRep; rw [if_pos (of_decide_eq_true HBD.out)]
          clear HNR0 HBD
          by_cases q1 : nr = 2
          · by_cases q2 : rep % 2 = 1
            · have HZ := Lib.hid (show 1 = NR by rwa [if_pos ⟨q1, q2⟩] at hN)
              have p1 : (nr == 2) = true := by simp [q1]
              have p2 : (rep % 2 == 1) = true := by simp [q2]
              clear q1 q2 hN
              as_aux_lemma => (go_wp2_with fail; go_meet; rw [← HZ.out]; exact (HN4.out.set 1 (.int .i64 2) ⟨lock, 2, 0, op, A, B2, C, D, NI, NS⟩ rfl).set 1 _ _ rfl)
            · have HZ := Lib.hid (show 2 = NR by rwa [if_neg (fun e => q2 e.2)] at hN)
              have p1 : (nr == 2) = true := by simp [q1]
              have p2 : (rep % 2 == 1) = false := by simp [q2]
              clear q1 q2 hN
              as_aux_lemma => (go_wp2_with fail; go_meet; rw [← HZ.out]; exact (HN4.out.set 1 (.int .i64 2) ⟨lock, 2, 0, op, A, B2, C, D, NI, NS⟩ rfl))
          · have HZ := Lib.hid (show 2 = NR by rwa [if_neg (fun e => q1 e.1)] at hN)
            have p1 : (nr == 2) = false := by simp [q1]
            clear q1 hN
            as_aux_lemma => (go_wp2_with fail; go_meet; rw [← HZ.out]; exact (HN4.out.set 1 (.int .i64 2) ⟨lock, 2, 0, op, A, B2, C, D, NI, NS⟩ rfl))
      case rest =>
      have HN5 := Lib.hid hcut
      clear cx ci fi li cr lr; clear hcut HN4 HNR0
      have cx := HN5.out.x.cell; have ci := HN5.out.i.cell; have fi := HN5.out.i.frozen; have li := HN5.out.i.lt; have cr := HN5.out.r.cell; have lr := HN5.out.r.lt
      go_upto_if 126 with fail
      obtain ⟨SG, hSG⟩ : ∃ n, nearSeg seg = n := ⟨_, rfl⟩
      rw [hSG] at HJ
      have HSG := Lib.hid hSG
      clear hSG
      go_cut [] (fun wx => NearAt w wx ⟨lock, rep, seg, op, mod, reg, rm, disp, imm, sel⟩ ⟨lock, NR, SG, op, A, B2, C, D, NI, NS⟩ ⟨rn, ra, rb, rmod⟩ kr)
      case first =>
        by_cases q1 : seg % 8 ≤ 4
        · have HZ := Lib.hid (show seg % 8 = SG by rw [← HSG.out]; unfold nearSeg; rw [if_pos q1])
          clear HSG
          as_aux_lemma => (go_wp2_with fail; go_meet; rw [← HZ.out]; exact HN5.out.set 2 _ _ rfl)
        · have HZ := Lib.hid (show 0 = SG by rw [← HSG.out]; unfold nearSeg; rw [if_neg q1])
          clear HSG
          as_aux_lemma => (go_wp2_with fail; go_meet; rw [← HZ.out]; exact HN5.out)
      case rest =>
      have HN6 := Lib.hid hcut
      clear cx ci fi li cr lr; clear hcut HN5 HSG b3 b1 b7
      have cx := HN6.out.x.cell; have ci := HN6.out.i.cell; have fi := HN6.out.i.frozen; have li := HN6.out.i.lt; have cr := HN6.out.r.cell; have lr := HN6.out.r.lt
      have hny := nearly_near ⟨lock, rep, seg, op, mod, reg, rm, disp, imm, sel⟩ K.out ⟨rn, ra, rb, rmod⟩
      have hop : (nearR ⟨lock, rep, seg, op, mod, reg, rm, disp, imm, sel⟩ ⟨rn, ra, rb, rmod⟩).op = op := rfl
      have hrw2 : instRow (nearR ⟨lock, rep, seg, op, mod, reg, rm, disp, imm, sel⟩ ⟨rn, ra, rb, rmod⟩).op (nearR ⟨lock, rep, seg, op, mod, reg, rm, disp, imm, sel⟩ ⟨rn, ra, rb, rmod⟩).reg = some ⟨rn, ra, rb, rmod⟩ := by
        show instRow op (if rmod then reg % 8 else 0) = some ⟨rn, ra, rb, rmod⟩
        cases hm : rmod with
        | true => rw [if_pos rfl, ← hm]; exact HRW.out
        | false => rw [if_neg (by decide), ← hm]; exact instRow_alone K.out.op.1 K.out.op.2 (by omega) (by omega) HRW.out hm
      have hmay := mayB_nearly _ _ hny hrw2 HF.out.a20
      have hcall := fun w => may_any5 _ _ hny hrw2 w
      have hnear : nearI ⟨lock, rep, seg, op, mod, reg, rm, disp, imm, sel⟩ = if (!noMem (nearR ⟨lock, rep, seg, op, mod, reg, rm, disp, imm, sel⟩ ⟨rn, ra, rb, rmod⟩).mod ⟨rn, ra, rb, rmod⟩) = true then nearR ⟨lock, rep, seg, op, mod, reg, rm, disp, imm, sel⟩ ⟨rn, ra, rb, rmod⟩ else nopI := by
        unfold nearI
        rw [show instRow op (reg % 8) = some ⟨rn, ra, rb, rmod⟩ from HRW.out]
        dsimp only
        rw [hmay]
      rw [HJ.out] at hcall hnear
      dsimp only at hcall hnear
      have HCALL := Lib.hid hcall
      have HNEAR := Lib.hid hnear
      clear hny hop hrw2 hmay hcall hnear
      go_wp2_with fail
      refine (HCALL.out _).mono ?_
      generalize noMem A ⟨rn, ra, rb, rmod⟩ = nb at HNEAR ⊢
      rintro e w5 ⟨rfl, hb⟩; dsimp only
      have HN7 := Lib.hid (HN6.out.on hb)
      clear cx ci fi li cr lr; clear hb HCALL
      have cx := HN7.out.x.cell; have ci := HN7.out.i.cell; have fi := HN7.out.i.frozen; have li := HN7.out.i.lt; have cr := HN7.out.r.cell; have lr := HN7.out.r.lt
      cases nb with
      | true =>
        have HE := Lib.hid (show nearI ⟨lock, rep, seg, op, mod, reg, rm, disp, imm, sel⟩ = nopI from HNEAR.out)
        clear HNEAR
        go_wp2_with fail
        refine bodyPost_ret (v := nopI.val) (results_row rfl _ _ _ _ _ _ rfl (row_inst nopI HN7.out.i) Tryz.underlying30 rfl (by kernel_rfl)) rfl ⟨by rw [HE.out], ?_⟩
        repeat (with_reducible refine Below.setCell ?_ (Nat.le_succ _) _)
        exact HN7.out.b
      | false =>
        have HE := Lib.hid (show nearI ⟨lock, rep, seg, op, mod, reg, rm, disp, imm, sel⟩ = ⟨lock, NR, SG, op, A, B2, C, D, NI, NS⟩ from HNEAR.out)
        clear HNEAR
        go_wp2_with fail
        refine bodyPost_ret (v := Inst.val ⟨lock, NR, SG, op, A, B2, C, D, NI, NS⟩) (results_row rfl _ _ _ _ _ _ rfl (row_inst ⟨lock, NR, SG, op, A, B2, C, D, NI, NS⟩ HN7.out.i) Tryz.underlying30 rfl (by kernel_rfl)) rfl ⟨by rw [HE.out], ?_⟩
        repeat (with_reducible refine Below.setCell ?_ (Nat.le_succ _) _)
        exact HN7.out.b
end Go.Proofs.YtcglkefaopgjeaaGreatDoor

/- What the reference's Put has at its steps: appended bytes, words' bytes. -/
namespace Go.Proofs.YtcglkefaopgjeaaGreatDoor
set_option linter.unusedSimpArgs false
set_option linter.unusedVariables false
open Go.RowKit

def bytesV (l : List Int) : List Value := l.map fun x => .int .u8 x
theorem bytesV_app (a b : List Int) : bytesV (a ++ b) = bytesV a ++ bytesV b := by simp [bytesV]
theorem bytesV_len (a : List Int) : (bytesV a).length = a.length := by simp [bytesV]
/-- What Put has at its steps. -/
structure PutAt (w wx : World) (i : Inst) (r : IRow) (kr : Nat) (v : Value) (l : List Int) : Prop where
  b : Below w.heap.size w wx
  i : Row wx w.heap.size i.cells 30
  r : Row wx kr #[.int .i64 r.name, .int .i64 r.a, .int .i64 r.b, .bool r.mod] 47
  k : w.heap.size < kr
  o : wx.ownsRow (kr + 1) 5 1 v l.length (bytesV l)
theorem PutAt.on {w wx wy : World} {i : Inst} {r : IRow} {kr : Nat} {v : Value} {l : List Int} (h : PutAt w wx i r kr v l) (hb : Below wx.heap.size wx wy) (ho : wy.ownsRow (kr + 1) 5 1 v l.length (bytesV l)) : PutAt w wy i r kr v l :=
  ⟨h.b.trans (hb.mono h.b.size), Below.row hb h.i h.i.lt, Below.row hb h.r h.r.lt, h.k, ho⟩
theorem PutAt.app {w wx w1 : World} {i : Inst} {r : IRow} {kr : Nat} {v v' : Value} {l l2 : List Int} (h : PutAt w wx i r kr v l) (hown : w1.ownsRow (kr + 1) 5 1 v' (l.length + l2.length) (bytesV l ++ bytesV l2)) (hg : wx.grownBy w1 v.ownBlock) : PutAt w w1 i r kr v' (l ++ l2) := by
  have hk := h.r.lt
  have hob := fun b hb => (h.o.lt b hb).1
  have hbk : Below (kr + 1) wx w1 := Below.grown (Below.refl (kr + 1) wx) hg (by omega) hob
  have hki := h.k
  refine ⟨h.b.trans (hbk.mono (by omega)), Below.row hbk h.i (by omega), Below.row hbk h.r (by omega), h.k, ?_⟩
  rw [bytesV_app, List.length_append]
  exact hown
theorem PutAt.alloc {w wx : World} {i : Inst} {r : IRow} {kr : Nat} {v : Value} {l : List Int} (h : PutAt w wx i r kr v l) (o : Obj) : PutAt w (wx.alloc o) i r kr v l :=
  h.on ((Below.refl _ _).alloc (Nat.le_refl _) _) (h.o.alloc _)
theorem PutAt.drew {w wx : World} {i : Inst} {r : IRow} {kr : Nat} {v : Value} {l : List Int} (h : PutAt w wx i r kr v l) : PutAt w wx.drew i r kr v l :=
  h.on (Below.refl _ _).drew (h.o.drew)
/-- Bytes are appended. -/
theorem wpList_push {ops : Array Oper} {rest : List Oper} {o : Oper} {a : Act} {Q : Exit → Act → World → Prop} (hgd : o.guard = none) (s x : Operand)
    (ho : o.op = .call { callee := .builtin .append, args := #[s, x], argTypes := #[32, 32] }) {w wy : World} {i : Inst} {r : IRow} {kr : Nat} {v : Value} {l : List Int} (hs : a.eval s = v) (h : PutAt w wy i r kr v l)
    (ad : Addr) (m c : Nat) (news : List Int) (hx : a.eval x = .slice (some ad) m c) (hm : news.length = m) (hc : ∀ j, j < m → wy.cell? (ad.add j) = some (.int .u8 (news.getD j 0))) (hl : l.length + m ≤ 100)
    (hq : ∀ v' w', PutAt w w' i r kr v' (l ++ news) → wpList Tryz.prog ops Q rest (a.put o.dst v') w') : wpList Tryz.prog ops Q (o :: rest) a wy := by
  obtain ⟨i0, hi0, hz0, hz1, hz2⟩ := info_parts info_u8
  refine wpList_append_own _ hgd s x 32 ho (kr + 1) 5 i0 _ 1 1 Tryz.underlying32 hi0 hz0 hz1 hz2 rfl (by omega) v l.length (bytesV l) hs h.o ad m c (bytesV news) hx (by rw [bytesV_len, hm]; omega) ?_ ?_ (by unfold maxLen; omega) (by omega) (by have := h.r.lt; omega) ?_
  · intro j u hj
    have hjm : j < news.length := by
      rcases Nat.lt_or_ge j news.length with e | e
      · exact e
      · rw [List.getElem?_eq_none (by rw [bytesV_len]; exact e)] at hj; cases hj
    rw [hc j (by omega)]
    rw [bytesV, List.getElem?_map, List.getElem?_eq_getElem hjm] at hj
    rw [List.getD_eq_getElem?_getD, List.getElem?_eq_getElem hjm]
    exact hj
  · intro u hu
    obtain ⟨y, -, rfl⟩ := List.mem_map.1 hu
    rfl
  · intro v' w' hown hg hat
    refine hq v' w' (h.app ?_ hg)
    rw [hm]
    exact hown
theorem step_push {ops : Array Oper} {o : Oper} {a : Act} {K : Act → World → Prop} {Q : Exit → Act → World → Prop} {E : Prop} (hgd : o.guard = none) (s x : Operand)
    (ho : o.op = .call { callee := .builtin .append, args := #[s, x], argTypes := #[32, 32] }) {w wy : World} {i : Inst} {r : IRow} {kr : Nat} {v : Value} {l : List Int} (h : PutAt w wy i r kr v l) (hs : a.eval s = v)
    (ad : Addr) (m c : Nat) (news : List Int) (hx : a.eval x = .slice (some ad) m c) (hm : news.length = m) (hc : ∀ j, j < m → wy.cell? (ad.add j) = some (.int .u8 (news.getD j 0))) (hl : l.length + m ≤ 100)
    (hq : ∀ v' w', PutAt w w' i r kr v' (l ++ news) → K (a.put o.dst v') w') : if Region.wanted o (yielded ops a.tmps) = true then Oper.wp Tryz.prog o a wy K Q else E := by
  have hw : Region.wanted o (yielded ops a.tmps) = true := by simp [Region.wanted, hgd]
  rw [if_pos hw]
  obtain ⟨i0, hi0, hz0, hz1, hz2⟩ := info_parts info_u8
  refine wp_append_own _ s x 32 ho (kr + 1) 5 i0 _ 1 1 Tryz.underlying32 hi0 hz0 hz1 hz2 rfl (by omega) v l.length (bytesV l) hs h.o ad m c (bytesV news) hx (by rw [bytesV_len, hm]; omega) ?_ ?_ (by unfold maxLen; omega) (by omega) (by have := h.r.lt; omega) ?_
  · intro j u hj
    have hjm : j < news.length := by
      rcases Nat.lt_or_ge j news.length with e | e
      · exact e
      · rw [List.getElem?_eq_none (by rw [bytesV_len]; exact e)] at hj; cases hj
    rw [hc j (by omega)]
    rw [bytesV, List.getElem?_map, List.getElem?_eq_getElem hjm] at hj
    rw [List.getD_eq_getElem?_getD, List.getElem?_eq_getElem hjm]
    exact hj
  · intro u hu
    obtain ⟨y, -, rfl⟩ := List.mem_map.1 hu
    rfl
  · intro v' w' hown hg hat
    refine hq v' w' (h.app ?_ hg)
    rw [hm]
    exact hown
theorem one_cell (wr : World) (x : Int) (j : Nat) (h : j < 1) : (wr.alloc (.cells #[.int .u8 x] 5)).cell? ((⟨wr.heap.size, 0, none⟩ : Addr).add j) = some (.int .u8 ([x].getD j 0)) := by
  obtain rfl : j = 0 := by omega
  exact ((Row.new wr #[.int .u8 x] 5).cell 0).trans rfl

def twoL (x : Int) : List Int := [x % 256, x / 256]
theorem two_cell (W : World) (x : Int) (m j : Nat) (hm : m ≤ 2) (hj : j < m) : (W.alloc (.cells #[.int .u8 (x % 256), .int .u8 (x / 256)] 5)).cell? ((⟨W.heap.size, 0, none⟩ : Addr).add j) = some (.int .u8 (((twoL x).take m).getD j 0)) := by
  have hr := Row.new W #[.int .u8 (x % 256), .int .u8 (x / 256)] 5
  have hj2 : j = 0 ∨ j = 1 := by omega
  have e : (⟨W.heap.size, 0, none⟩ : Addr).add j = ⟨W.heap.size, j, none⟩ := by unfold Addr.add; split <;> simp_all
  rw [e, hr.cell j, List.getD_eq_getElem?_getD, List.getElem?_take, if_pos hj]
  unfold twoL
  rcases hj2 with rfl | rfl <;> rfl
theorem two_at (W W2 : World) (x : Int) (n m j : Nat) (hw : W2 = W.alloc (.cells #[.int .u8 (x % 256), .int .u8 (x / 256)] 5)) (hn : n = W.heap.size) (hm : m ≤ 2) (hj : j < m) : W2.cell? ((⟨n, 0, none⟩ : Addr).add j) = some (.int .u8 (((twoL x).take m).getD j 0)) := by
  subst hw hn
  exact two_cell W x m j hm hj
theorem pre0_le (b : Bool) : (pre0 b).length ≤ 1 := by cases b <;> simp [pre0]
theorem pre1_le (n : Int) : (pre1 n).length ≤ 1 := by unfold pre1; split <;> simp
theorem pre2_le (n : Int) : (pre2 n).length ≤ 1 := by unfold pre2; split <;> simp


abbrev twoC (x : Int) : Array Value := #[.int .u8 (x % 256), .int .u8 (x / 256)]
/-- Words' bytes that lie in rows of their own, beside what Put has. -/
structure PutK (w wx : World) (i : Inst) (r : IRow) (kr : Nat) (v : Value) (l : List Int) (K : List (Nat × Int)) : Prop where
  p : PutAt w wx i r kr v l
  k : ∀ q ∈ K, Row wx q.1 (twoC q.2) 5 ∧ kr + 1 ≤ q.1 ∧ v.ownBlock ≠ some q.1
theorem PutAt.bare {w wx : World} {i : Inst} {r : IRow} {kr : Nat} {v : Value} {l : List Int} (h : PutAt w wx i r kr v l) : PutK w wx i r kr v l [] := ⟨h, fun q hq => by cases hq⟩
theorem PutAt.own_lt {w wx : World} {i : Inst} {r : IRow} {kr : Nat} {v : Value} {l : List Int} (h : PutAt w wx i r kr v l) (b : Nat) (hb : v.ownBlock = some b) : b < wx.heap.size := by
  obtain ⟨_, ⟨rfl, _⟩ | ⟨g, cap, cur, rfl, hg, hgr, _⟩⟩ := h.o
  · cases hb
  · cases hb
    rcases Nat.lt_or_ge g wx.heap.size with e | e
    · exact e
    · rw [Array.getElem?_eq_none e] at hgr; cases hgr
theorem step_two {ops : Array Oper} {o : Oper} {a : Act} {wx : World} {KK : Act → World → Prop} {Q : Exit → Act → World → Prop} {E : Prop} (hg : o.guard = none) (x : Operand)
    (hop : o.op = Op.call { callee := Callee.value (.func 49), args := #[x], argTypes := #[22] }) {w : World} {i : Inst} {r : IRow} {kr : Nat} {v : Value} {l : List Int} {K : List (Nat × Int)} (h : PutK w wx i r kr v l K)
    (n : Int) (n0 : 0 ≤ n) (n1 : n ≤ 65535) (hx : a.eval x = .int .u16 n) (hq : ∀ g w', PutK w w' i r kr v l ((g, n) :: K) → KK (a.put o.dst (.slice (some ⟨g, 0, none⟩) 2 2)) w') :
    if Region.wanted o (yielded ops a.tmps) = true then Oper.wp Tryz.prog o a wx KK Q else E := by
  refine step_calls hg 49 #[x] _ hop own_two #[.int .u16 n] (by simp [hx]) ((two_any5 n n0 n1 wx).mono ?_)
  rintro e w' ⟨rfl, rfl⟩
  refine ⟨_, rfl, hq wx.heap.size _ ⟨h.p.alloc _, ?_⟩⟩
  intro q hq
  rcases List.mem_cons.1 hq with rfl | hq
  · exact ⟨Row.new wx _ _, h.p.r.lt, fun e => Nat.lt_irrefl _ (h.p.own_lt _ e)⟩
  · exact ⟨(h.k q hq).1.alloc _, (h.k q hq).2⟩
theorem push_core {o : Oper} {a : Act} {KK : Act → World → Prop} {Q : Exit → Act → World → Prop} (s x : Operand)
    (ho : o.op = .call { callee := .builtin .append, args := #[s, x], argTypes := #[32, 32] }) {w wy : World} {i : Inst} {r : IRow} {kr : Nat} {v : Value} {l : List Int} {K : List (Nat × Int)} (h : PutK w wy i r kr v l K) (hs : a.eval s = v)
    (g : Nat) (n : Int) (hmem : (g, n) ∈ K) (m c : Nat) (hm : m ≤ 2) (hx : a.eval x = .slice (some ⟨g, 0, none⟩) m c) (hl : l.length ≤ 90)
    (hq : ∀ v' w', PutAt w w' i r kr v' (l ++ (twoL n).take m) → (∀ q ∈ K, Row w' q.1 (twoC q.2) 5) → KK (a.put o.dst v') w') : Oper.wp Tryz.prog o a wy KK Q := by
  obtain ⟨i0, hi0, hz0, hz1, hz2⟩ := info_parts info_u8
  have hlen : ((twoL n).take m).length = m := by simp [twoL]; omega
  have hr := (h.k (g, n) hmem).1
  refine wp_append_own _ s x 32 ho (kr + 1) 5 i0 _ 1 1 Tryz.underlying32 hi0 hz0 hz1 hz2 rfl (by omega) v l.length (bytesV l) hs h.p.o ⟨g, 0, none⟩ m c (bytesV ((twoL n).take m)) hx (by rw [bytesV_len, hlen]; omega) ?_ ?_ (by unfold maxLen; omega) (by omega) (by have := h.p.r.lt; omega) ?_
  · intro j u hj
    have hjm : j < m := by
      rcases Nat.lt_or_ge j m with e | e
      · exact e
      · rw [List.getElem?_eq_none (by rw [bytesV_len, hlen]; exact e)] at hj; cases hj
    have e : (⟨g, 0, none⟩ : Addr).add j = ⟨g, j, none⟩ := by unfold Addr.add; split <;> simp_all
    rw [e, hr.cell j]
    rw [bytesV, List.getElem?_map, List.getElem?_take, if_pos hjm] at hj
    have hj2 : j = 0 ∨ j = 1 := by omega
    rcases hj2 with rfl | rfl <;> exact hj
  · intro u hu
    obtain ⟨y, -, rfl⟩ := List.mem_map.1 hu
    rfl
  · intro v' w' hown hg hat
    refine hq v' w' (h.p.app (by rw [hlen]; exact hown) hg) ?_
    intro q hq2
    have hk := h.k q hq2
    have hb := hg.block q.1 hk.1.lt (fun e => hk.2.2 e.symm)
    exact Row.of_heap (hb.trans hk.1)
theorem step_push0 {ops : Array Oper} {o : Oper} {a : Act} {KK : Act → World → Prop} {Q : Exit → Act → World → Prop} {E : Prop} (hgd : o.guard = none) (s x : Operand)
    (ho : o.op = .call { callee := .builtin .append, args := #[s, x], argTypes := #[32, 32] }) {w wy : World} {i : Inst} {r : IRow} {kr : Nat} {v : Value} {l : List Int} {K : List (Nat × Int)} (h : PutK w wy i r kr v l K) (hs : a.eval s = v)
    (g : Nat) (n : Int) (hmem : (g, n) ∈ K) (m c : Nat) (hm : m ≤ 2) (hx : a.eval x = .slice (some ⟨g, 0, none⟩) m c) (hl : l.length ≤ 90)
    (hq : ∀ v' w', PutAt w w' i r kr v' (l ++ (twoL n).take m) → KK (a.put o.dst v') w') : if Region.wanted o (yielded ops a.tmps) = true then Oper.wp Tryz.prog o a wy KK Q else E := by
  have hw : Region.wanted o (yielded ops a.tmps) = true := by simp [Region.wanted, hgd]
  rw [if_pos hw]
  exact push_core s x ho h hs g n hmem m c hm hx hl (fun v' w' hp _ => hq v' w' hp)
theorem step_push3 {ops : Array Oper} {o : Oper} {a : Act} {KK : Act → World → Prop} {Q : Exit → Act → World → Prop} {E : Prop} (hgd : o.guard = none) (s x : Operand)
    (ho : o.op = .call { callee := .builtin .append, args := #[s, x], argTypes := #[32, 32] }) {w wy : World} {i : Inst} {r : IRow} {kr : Nat} {v : Value} {l : List Int} {K : List (Nat × Int)} (h : PutK w wy i r kr v l K) (hs : a.eval s = v)
    (g : Nat) (n : Int) (hmem : (g, n) ∈ K) (c : Nat) (hx : a.eval x = .slice (some ⟨g, 0, none⟩) 2 c) (hl : l.length ≤ 90) (hl1 : 1 ≤ l.length)
    (hq : ∀ v' w', PutK w w' i r kr v' (l ++ (twoL n).take 2) K → KK (a.put o.dst v') w') : if Region.wanted o (yielded ops a.tmps) = true then Oper.wp Tryz.prog o a wy KK Q else E := by
  have hw : Region.wanted o (yielded ops a.tmps) = true := by simp [Region.wanted, hgd]
  rw [if_pos hw]
  refine push_core s x ho h hs g n hmem 2 c (by omega) hx hl (fun v' w' hp hr => hq v' w' ⟨hp, fun q hq2 => ⟨hr q hq2, (h.k q hq2).2.1, ?_⟩⟩)
  intro e
  have hro : w'.heap[q.1]? = some (.cells (twoC q.2) 5 (0, 0)) := hr q hq2
  have hlen : (l ++ (twoL n).take 2).length = l.length + 2 := by simp [twoL]
  obtain ⟨_, ⟨_, h0⟩ | ⟨g2, cap, cur, rfl, hg2, hgr, hcn, hcm, hcs, _⟩⟩ := hp.o
  · omega
  · have e2 : g2 = q.1 := by simpa [Value.ownBlock] using e
    subst e2
    rw [hgr] at hro
    have hc : cur = twoC q.2 := by simpa using hro
    rw [hc] at hcs
    simp at hcs
    omega
theorem PutAt.done {w wx : World} {i : Inst} {r : IRow} {kr : Nat} {v : Value} {l : List Int} (h : PutAt w wx i r kr v l) (hl : 0 < l.length) :
    ∃ g cap : Nat, v = .slice (some ⟨g, 0, none⟩) l.length cap ∧ w.heap.size ≤ g ∧ g < wx.heap.size ∧ ∀ k, k < l.length → wx.cell? ⟨g, k, none⟩ = some (.int .u8 (l.getD k 0)) := by
  have ho := h.o
  obtain ⟨_, ⟨_, h0⟩ | ⟨g, cap, cur, rfl, hg, hgr, hcn, hcm, hcs, _⟩⟩ := h.o
  · omega
  · refine ⟨g, cap, rfl, by have := h.k; omega, h.own_lt g rfl, ?_⟩
    intro k hk
    have hcell := ho.cells (g := g) rfl k (.int .u8 (l.getD k 0)) (by
      rw [bytesV, List.getElem?_map, List.getD_eq_getElem?_getD, List.getElem?_eq_getElem hk]; rfl)
    have e : (⟨g, 0, none⟩ : Addr).add k = ⟨g, k, none⟩ := by unfold Addr.add; split <;> simp_all
    rwa [e] at hcell
end Go.Proofs.YtcglkefaopgjeaaGreatDoor

/- The reference's bytes of an instruction: walk. -/
namespace Go.Proofs.YtcglkefaopgjeaaGreatDoor
set_option linter.unusedSimpArgs false
set_option linter.unusedVariables false
open Go.RowKit

theorem PutAt.below {w wx wy : World} {i : Inst} {r : IRow} {kr : Nat} {v : Value} {l : List Int} (h : PutAt w wx i r kr v l) (hb : Below wx.heap.size wx wy) : PutAt w wy i r kr v l :=
  h.on hb (h.o.kept (row := none) ⟨hb.os, hb.tape, hb.output, hb.size, fun k hk _ => hb.block k hk⟩ (by by_cases e : v.ownBlock = none; exact Or.inl e; exact Or.inr e))

set_option maxRecDepth 100000 in
set_option maxHeartbeats 12800000 in
theorem put_any5 (i : Inst) (h : i.good) (w : World) : Calls Tryz.prog 15 #[i.val] w fun e w' => ∃ g cap : Nat, e = .returned (.slice (some ⟨g, 0, none⟩) (putL i).length cap) ∧ Below w.heap.size w w' ∧ w.heap.size ≤ g ∧ g < w'.heap.size ∧ ∀ k, k < (putL i).length → w'.cell? ⟨g, k, none⟩ = some (.int .u8 ((putL i).getD k 0)) := by
  obtain ⟨i0, hi0, hz0, hz1, hz2⟩ := info_parts info_u8
  have hrow : ∃ r, instRow i.op i.reg = some r := by
    have := h.may
    unfold mayB at this
    cases he : instRow i.op i.reg with
    | none => rw [he] at this; cases this
    | some r => exact ⟨r, rfl⟩
  obtain ⟨r, hr⟩ := hrow
  have HRow := Lib.hid (fun w => row_any5 i w h.wf.op.1 h.wf.op.2 h.wf.reg.1 h.wf.reg.2)
  rw [hr] at HRow
  have HL := Lib.hid (show putL i = pre0 i.lock ++ pre1 i.rep ++ pre2 i.seg ++ [i.op] ++ secL i r ++ immL (immsOf r) i.imm i.sel by unfold putL preL; rw [hr]; simp)
  have HG := Lib.hid h
  have w1 := h.wf.mod
  have w2 := h.wf.reg
  have w3 := h.wf.rm
  have w4 := h.wf.disp
  have w5 := h.wf.imm
  have w6 := h.wf.sel
  have w7 := h.rep
  have w8 := h.seg
  clear h hr
  obtain ⟨lock, rep, seg, op, mod, reg, rm, disp, imm, sel⟩ := i
  obtain ⟨rn, ra, rb, rmod⟩ := r
  have hi0' := Row.new w #[.bool lock, .int .i64 rep, .int .i64 seg, .int .u8 op, .int .i64 mod, .int .i64 reg, .int .i64 rm, .int .u16 disp, .int .u16 imm, .int .u16 sel] 30
  have HI0 := Lib.hid hi0'
  have HB0 := Lib.hid ((Below.refl w.heap.size w).alloc (Nat.le_refl _) (.cells #[.bool lock, .int .i64 rep, .int .i64 seg, .int .u8 op, .int .i64 mod, .int .i64 reg, .int .i64 rm, .int .u16 disp, .int .u16 imm, .int .u16 sel] 30))
  have xi0 := hi0'.cell
  clear hi0'
  dsimp only at w1 w2 w3 w4 w5 w6 w7 w8
  go_enter Tryz.func15, Tryz.ntmps15
  go_wp2_with fail
  generalize w.alloc (.cells #[.bool lock, .int .i64 rep, .int .i64 seg, .int .u8 op, .int .i64 mod, .int .i64 reg, .int .i64 rm, .int .u16 disp, .int .u16 imm, .int .u16 sel] 30) = W0 at *
  refine (HRow.out _).mono ?_
  rw [rowV_some]
  rintro e w1' ⟨rfl, hb⟩; dsimp only
  have HB1 := Lib.hid ((HB0.out.trans (hb.mono HB0.out.size)).alloc (Nat.le_trans HB0.out.size hb.size) (.cells #[.int .i64 rn, .int .i64 ra, .int .i64 rb, .bool rmod] 47))
  have HI1 := Lib.hid ((Below.row hb HI0.out HI0.out.lt).alloc (.cells #[.int .i64 rn, .int .i64 ra, .int .i64 rb, .bool rmod] 47))
  have HX1 := Lib.hid (Row.new w1' #[.int .i64 rn, .int .i64 ra, .int .i64 rb, .bool rmod] 47)
  have HK1 := Lib.hid (show w.heap.size < w1'.heap.size from Nat.lt_of_lt_of_le HI0.out.lt hb.size)
  clear hb xi0
  have bl0 := pre0_le lock
  have bl1 := pre1_le rep
  have bl2 := pre2_le seg
  go_upto_region 2 with fail
  have hk2 : w1'.heap.size + 1 = (w1'.alloc (.cells #[.int .i64 rn, .int .i64 ra, .int .i64 rb, .bool rmod] 47)).heap.size := by rw [World.size_alloc]
  generalize w1'.alloc (.cells #[.int .i64 rn, .int .i64 ra, .int .i64 rb, .bool rmod] 47) = W1 at HB1 HI1 HX1 hk2 ⊢
  generalize w1'.heap.size = kr at HX1 HK1 hk2 ⊢
  have hm := World.ownsRow_made (base := kr + 1) (e := 5) (size := 1) W1 #[] 0 (by rw [hk2]; exact Nat.le_refl _) (by unfold maxLen; omega) rfl
  have hb2 := HB1.out.alloc HB1.out.size (.cells #[] 5)
  have HP0 := Lib.hid (PutAt.mk (i := ⟨lock, rep, seg, op, mod, reg, rm, disp, imm, sel⟩) (r := ⟨rn, ra, rb, rmod⟩) (l := []) hb2 (HI1.out.alloc _) (HX1.out.alloc _) HK1.out hm)
  have K2 := Lib.hid hk2
  clear hm hb2 hk2
  have ci := HP0.out.i.cell
  have cr := HP0.out.r.cell
  go_upto_if 14 with fail
  generalize W1.alloc (.cells #[] 5) = W2 at HP0 ci cr ⊢
  generalize (Value.slice (some ⟨W1.heap.size, 0, none⟩) 0 0) = v0 at HP0 ⊢
  go_cut [5] (fun s5 wx => PutAt w wx ⟨lock, rep, seg, op, mod, reg, rm, disp, imm, sel⟩ ⟨rn, ra, rb, rmod⟩ kr s5 (pre0 lock))
  case first =>
    cases lock with
    | false => as_aux_lemma => (go_wp2_with fail; go_meet; exact HP0.out)
    | true => as_aux_lemma => (go_wp2_with (at_builtin; go_loud (refine wpList_push rfl _ _ rfl rfl (HP0.out.alloc _) ⟨_, 0, none⟩ 1 1 [240] rfl rfl (one_cell _ _) (by simp <;> omega) ?_; intro v' w1 HPN)); go_wp2_with fail; go_meet; exact HPN)
  case rest =>
  have HP1 := Lib.hid hcut
  clear hcut HP0 ci cr K2
  have ci := HP1.out.i.cell
  have cr := HP1.out.r.cell
  go_upto_if 20 with fail
  go_cut [5] (fun s5 wx => PutAt w wx ⟨lock, rep, seg, op, mod, reg, rm, disp, imm, sel⟩ ⟨rn, ra, rb, rmod⟩ kr s5 (pre0 lock ++ pre1 rep))
  case first =>
    by_cases q : 0 < rep
    · have e1 : IntKind.u8.wrap (wrap64 (241 + rep)) = 241 + rep := by unfold wrap64; rw [IntKind.wrap_u8]; omega
      have e2 : (241 + rep) % 256 = 241 + rep := by omega
      have HQ := Lib.hid (show [241 + rep] = pre1 rep by unfold pre1; rw [if_pos q])
      as_aux_lemma => (go_wp2_with (at_builtin; go_loud (refine wpList_push rfl _ _ rfl rfl (HP1.out.alloc _) ⟨_, 0, none⟩ 1 1 [241 + rep] rfl rfl (one_cell _ _) (by simp <;> omega) ?_; intro v' w1 HPN)); go_wp2_with fail; go_meet; rw [← HQ.out]; exact HPN)
    · have HQ := Lib.hid (show ([] : List Int) = pre1 rep by unfold pre1; rw [if_neg q])
      as_aux_lemma => (go_wp2_with fail; go_meet; rw [← HQ.out, List.append_nil]; exact HP1.out)
  case rest =>
  have HP2 := Lib.hid hcut
  clear hcut HP1 ci cr
  have ci := HP2.out.i.cell
  have cr := HP2.out.r.cell
  go_upto_if 30 with fail
  go_cut [5] (fun s5 wx => PutAt w wx ⟨lock, rep, seg, op, mod, reg, rm, disp, imm, sel⟩ ⟨rn, ra, rb, rmod⟩ kr s5 (pre0 lock ++ pre1 rep ++ pre2 seg))
  case first =>
    by_cases q : 0 < seg
    · have e0 : wrap64 (8 * seg) = 8 * seg := by unfold wrap64; omega
      have e1 : wrap64 (30 + 8 * seg) = 30 + 8 * seg := by unfold wrap64; omega
      have e2 : (30 + 8 * seg) % 256 = 30 + 8 * seg := by omega
      have HQ := Lib.hid (show [30 + 8 * seg] = pre2 seg by unfold pre2; rw [if_pos q])
      as_aux_lemma => (go_wp2_with (at_builtin; go_loud (refine wpList_push rfl _ _ rfl rfl (HP2.out.alloc _) ⟨_, 0, none⟩ 1 1 [30 + 8 * seg] rfl rfl (one_cell _ _) (by simp <;> omega) ?_; intro v' w1 HPN)); go_wp2_with fail; go_meet; rw [← HQ.out]; exact HPN)
    · have HQ := Lib.hid (show ([] : List Int) = pre2 seg by unfold pre2; rw [if_neg q])
      as_aux_lemma => (go_wp2_with fail; go_meet; rw [← HQ.out, List.append_nil]; exact HP2.out)
  case rest =>
  have HP3 := Lib.hid hcut
  clear hcut HP2 ci cr
  have ci := HP3.out.i.cell
  have cr := HP3.out.r.cell
  obtain ⟨L3, hL3⟩ : ∃ l, pre0 lock ++ pre1 rep ++ pre2 seg = l := ⟨_, rfl⟩
  have hlen3 : L3.length ≤ 3 := hL3 ▸ preL_le ⟨lock, rep, seg, op, mod, reg, rm, disp, imm, sel⟩
  rw [hL3] at HP3 HL
  clear hL3
  go_upto_region 9 with fail
  go_cut [5] (fun s5 wx => PutAt w wx ⟨lock, rep, seg, op, mod, reg, rm, disp, imm, sel⟩ ⟨rn, ra, rb, rmod⟩ kr s5 (L3 ++ [op]))
  case first => as_aux_lemma => (go_wp2_with (at_builtin; go_loud (refine wpList_push rfl _ _ rfl rfl (HP3.out.alloc _) ⟨_, 0, none⟩ 1 1 [op] rfl rfl (one_cell _ _) (by simp <;> omega) ?_; intro v' w1 HPN)); go_wp2_with fail; go_meet; exact HPN)
  case rest =>
  have HP4 := Lib.hid hcut
  clear hcut HP3 ci cr
  have ci := HP4.out.i.cell
  have cr := HP4.out.r.cell
  go_upto_if 45 with fail
  have hlen4 := secL_le ⟨lock, rep, seg, op, mod, reg, rm, disp, imm, sel⟩ ⟨rn, ra, rb, rmod⟩
  obtain ⟨L4, hL4⟩ : ∃ l, secL ⟨lock, rep, seg, op, mod, reg, rm, disp, imm, sel⟩ ⟨rn, ra, rb, rmod⟩ = l := ⟨_, rfl⟩
  rw [hL4] at HL hlen4
  have HL4 := Lib.hid hL4
  clear hL4
  go_cut [5] (fun s5 wx => PutAt w wx ⟨lock, rep, seg, op, mod, reg, rm, disp, imm, sel⟩ ⟨rn, ra, rb, rmod⟩ kr s5 (L3 ++ [op] ++ L4))
  case first =>
    cases rmod with
    | false =>
      have HQ := Lib.hid (show ([] : List Int) = L4 by rw [← HL4.out]; rfl)
      as_aux_lemma => (go_wp2_with fail; go_meet; rw [← HQ.out, List.append_nil]; exact HP4.out)
    | true =>
      have HQ := Lib.hid (show (64 * mod + 8 * reg + rm) :: dispL (dispsOf mod rm) disp = L4 by rw [← HL4.out]; rfl)
      clear HL4
      have e0 : wrap64 (64 * mod) = 64 * mod := by unfold wrap64; omega
      have e1 : wrap64 (8 * reg) = 8 * reg := by unfold wrap64; omega
      have e2 : wrap64 (64 * mod + 8 * reg) = 64 * mod + 8 * reg := by unfold wrap64; omega
      have e3 : wrap64 (64 * mod + 8 * reg + rm) = 64 * mod + 8 * reg + rm := by unfold wrap64; omega
      have e4 : (64 * mod + 8 * reg + rm) % 256 = 64 * mod + 8 * reg + rm := by omega
      go_upto_region 11 with fail
      go_cut [5] (fun s5 wx => PutAt w wx ⟨lock, rep, seg, op, mod, reg, rm, disp, imm, sel⟩ ⟨rn, ra, rb, true⟩ kr s5 (L3 ++ [op] ++ [64 * mod + 8 * reg + rm]))
      case first => as_aux_lemma => (go_wp2_with (at_builtin; go_loud (refine wpList_push rfl _ _ rfl rfl (HP4.out.alloc _) ⟨_, 0, none⟩ 1 1 [64 * mod + 8 * reg + rm] rfl rfl (one_cell _ _) (by simp <;> omega) ?_; intro v' w1 HPN)); go_wp2_with fail; go_meet; exact HPN)
      case rest =>
        have HP5 := Lib.hid hcut
        clear hcut HP4 ci cr e0 e1 e2 e3 e4
        have ci := HP5.out.i.cell
        have cr := HP5.out.r.cell
        have li := HP5.out.i.lt
        have lr := HP5.out.r.lt
        have li2 : ¬ w.heap.size = wc.heap.size := Nat.ne_of_lt li
        have li3 : ¬ wc.heap.size = w.heap.size := Ne.symm li2
        go_upto_region 12 with fail
        obtain ⟨d, hd, hd2⟩ : ∃ d : Nat, dispsOf mod rm = (d : Int) ∧ d ≤ 2 := by
          rcases disps3 mod rm with e | e | e <;> rw [e]
          · exact ⟨0, rfl, by omega⟩
          · exact ⟨1, rfl, by omega⟩
          · exact ⟨2, rfl, by omega⟩
        have KD := Lib.hid (fun w => hd ▸ disps_any5 mod rm w)
        have HQ2 := Lib.hid (show [64 * mod + 8 * reg + rm] ++ (twoL disp).take d = L4 by
          rw [← HQ.out, hd]
          have h3 : d = 0 ∨ d = 1 ∨ d = 2 := by omega
          rcases h3 with rfl | rfl | rfl <;> rfl)
        have d1 : (d : Int) ≤ 2 := by omega
        have d3 : (0 : Int) ≤ d := by omega
        have hS := HP5.out.drew.bare
        clear HQ hd
        go_region_law (first | (refine step_two rfl (.tmp 62) rfl (by with_reducible assumption) disp w4.1 w4.2 rfl ?_; intro gs w' hS; have ci := hS.p.i.cell) | (refine step_calls rfl 44 #[.tmp 65, .tmp 67] _ rfl own_disps #[.int .i64 mod, .int .i64 rm] (by simp [Act.eval, Act.put]) ((KD.out _).mono ?_); rintro e w' ⟨rfl, rfl⟩; refine ⟨_, rfl, ?_⟩) | (refine step_push0 rfl (.tmp 60) (.tmp 69) rfl (by with_reducible assumption) (by rfl) _ _ List.mem_cons_self d 2 hd2 rfl (by simp <;> omega) ?_; intro v' w1 HPN))
        all_goals
          go_wp2_with fail
          go_meet
          rw [← HQ2.out, ← List.append_assoc]
          exact HPN
  case rest =>
  have HP6 := Lib.hid hcut
  clear hcut HP4 ci cr
  have hl6 : (L3 ++ [op] ++ L4).length ≤ 8 := by simp; omega
  have hl61 : 1 ≤ (L3 ++ [op] ++ L4).length := by simp <;> omega
  generalize L3 ++ [op] ++ L4 = L6 at HP6 HL hl6 hl61
  clear HL4
  have ci := HP6.out.i.cell
  have cr := HP6.out.r.cell
  go_wp2_with fail
  refine (imms_any5 ⟨rn, ra, rb, rmod⟩ _).mono ?_
  generalize immsOf ⟨rn, ra, rb, rmod⟩ = n at HL ⊢
  rintro e w6' ⟨rfl, hb⟩; dsimp only
  have HP7 := Lib.hid (HP6.out.below hb)
  clear hb ci cr HP6
  have ci := HP7.out.i.cell
  have cr := HP7.out.r.cell
  have cn : n = 1 ∨ n = 2 ∨ n = 4 ∨ (n ≠ 1 ∧ n ≠ 2 ∧ n ≠ 4) := by omega
  rcases cn with rfl | rfl | rfl | ⟨n1, n2, n4⟩
  · have HE := Lib.hid (show putL ⟨lock, rep, seg, op, mod, reg, rm, disp, imm, sel⟩ = L6 ++ (twoL imm).take 1 from HL.out)
    clear HL
    as_aux_lemma => (go_wp2_with (first | (go_at_call 49; refine (two_any5 imm w5.1 w5.2 _).mono ?_; rintro e w' ⟨rfl, rfl⟩) | (at_builtin; go_loud (refine wpList_push rfl _ _ rfl rfl (HP7.out.alloc _) ⟨_, 0, none⟩ 1 2 ((twoL imm).take 1) rfl (by simp [twoL]) (fun j hj => two_at _ _ _ _ _ _ rfl rfl (by omega) hj) (by omega) ?_; intro v' w1 HPN))); obtain ⟨g, cap, hv, hg0, hg1, hc⟩ := HPN.done (by first | omega | (simp <;> omega)); subst hv; go_ret; rw [HE.out]; first | exact ⟨g, cap, rfl, HPN.b, hg0, hg1, hc⟩ | exact ⟨g, ⟨cap, rfl⟩, HPN.b, hg0, hg1, by simpa [List.getD_eq_getElem?_getD] using hc⟩)
  · have HE := Lib.hid (show putL ⟨lock, rep, seg, op, mod, reg, rm, disp, imm, sel⟩ = L6 ++ (twoL imm).take 2 from HL.out)
    clear HL
    as_aux_lemma => (go_wp2_with (first | (go_at_call 49; refine (two_any5 imm w5.1 w5.2 _).mono ?_; rintro e w' ⟨rfl, rfl⟩) | (at_builtin; go_loud (refine wpList_push rfl _ _ rfl rfl (HP7.out.alloc _) ⟨_, 0, none⟩ 2 2 ((twoL imm).take 2) rfl (by simp [twoL]) (fun j hj => two_at _ _ _ _ _ _ rfl rfl (by omega) hj) (by omega) ?_; intro v' w1 HPN))); obtain ⟨g, cap, hv, hg0, hg1, hc⟩ := HPN.done (by first | omega | (simp <;> omega)); subst hv; go_ret; rw [HE.out]; first | exact ⟨g, cap, rfl, HPN.b, hg0, hg1, hc⟩ | exact ⟨g, ⟨cap, rfl⟩, HPN.b, hg0, hg1, by simpa [List.getD_eq_getElem?_getD] using hc⟩)
  · have HE := Lib.hid (show putL ⟨lock, rep, seg, op, mod, reg, rm, disp, imm, sel⟩ = L6 ++ (twoL imm).take 2 ++ (twoL sel).take 2 by rw [List.append_assoc]; exact HL.out)
    clear HL
    have hS := HP7.out.drew.bare
    go_wp2_with fail
    go_region_law (first | (refine step_two rfl (.tmp 88) rfl (by with_reducible assumption) imm w5.1 w5.2 rfl ?_; intro gs w' hS; have ci := hS.p.i.cell) | (refine step_two rfl (.tmp 92) rfl (by with_reducible assumption) sel w6.1 w6.2 rfl ?_; intro gs w' hS; have ci := hS.p.i.cell) | (refine step_push3 rfl (.tmp 86) (.tmp 89) rfl (by with_reducible assumption) (by rfl) _ imm (by first | exact List.mem_cons_self | exact List.mem_cons_of_mem _ List.mem_cons_self) 2 rfl (by omega) (by omega) ?_; intro v' w1 hS; have ci := hS.p.i.cell) | (refine step_push0 rfl (.tmp 90) (.tmp 93) rfl (by with_reducible assumption) (by rfl) _ sel (by first | exact List.mem_cons_self | exact List.mem_cons_of_mem _ List.mem_cons_self) 2 2 (by omega) rfl (by simp [twoL] <;> omega) ?_; intro v' w1 HPN))
    all_goals
      go_wp2_with fail
      obtain ⟨g, cap, hv, hg0, hg1, hc⟩ := HPN.done (by first | omega | (simp <;> omega)); subst hv; go_ret; rw [HE.out]; first | exact ⟨g, cap, rfl, HPN.b, hg0, hg1, hc⟩ | exact ⟨g, ⟨cap, rfl⟩, HPN.b, hg0, hg1, by simpa [List.getD_eq_getElem?_getD] using hc⟩
  · have k1 : (n == 1) = false := by simpa using n1
    have k2 : (n == 2) = false := by simpa using n2
    have k4 : (n == 4) = false := by simpa using n4
    have HE := Lib.hid (show putL ⟨lock, rep, seg, op, mod, reg, rm, disp, imm, sel⟩ = L6 by rw [HL.out, immL, if_neg n1, if_neg n2, if_neg n4, List.append_nil])
    have HPN := HP7.out
    clear HL n1 n2 n4
    as_aux_lemma => (go_wp2_with fail; obtain ⟨g, cap, hv, hg0, hg1, hc⟩ := HPN.done (by first | omega | (simp <;> omega)); subst hv; go_ret; rw [HE.out]; first | exact ⟨g, cap, rfl, HPN.b, hg0, hg1, hc⟩ | exact ⟨g, ⟨cap, rfl⟩, HPN.b, hg0, hg1, by simpa [List.getD_eq_getElem?_getD] using hc⟩)
end Go.Proofs.YtcglkefaopgjeaaGreatDoor

/- Package long: spread, Mul, signed, Div: walks. -/
namespace Go.Proofs.YtcglkefaopgjeaaGreatDoor
set_option linter.unusedSimpArgs false
set_option linter.unusedVariables false
open Go.RowKit

def spreadV (v : Int) (wide : Bool) : Int := if wide then IntKind.i16.wrap v else IntKind.i8.wrap v
theorem spreadV_in (v : Int) (wide : Bool) : -32768 ≤ spreadV v wide ∧ spreadV v wide ≤ 32767 := by
  unfold spreadV
  cases wide
  · rw [if_neg (by decide)]
    simp [IntKind.wrap, IntKind.bits, IntKind.signed]
    split <;> omega
  · rw [if_pos rfl]
    simp [IntKind.wrap, IntKind.bits, IntKind.signed]
    split <;> omega
theorem w32 (n : Int) (h : -2147483648 ≤ n ∧ n ≤ 2147483647) : wrap32 n = n := by unfold wrap32; omega
set_option maxRecDepth 100000 in
theorem lspread_any (v : Int) (wide : Bool) (w : World) :
    Calls Tryz.prog 218 #[.int .u16 v, .bool wide] w fun e w' => e = .returned (.int .i32 (spreadV v wide)) ∧ w = w' := by
  cases wide
  · go_enter Tryz.func218, Tryz.ntmps218
    go_wp2_with fail
    go_ret
    exact ⟨ret_int (w32 _ (by have := spreadV_in v false; unfold spreadV at this; rw [if_neg (by decide)] at this; omega)), rfl⟩
  · go_enter Tryz.func218, Tryz.ntmps218
    go_wp2_with fail
    go_ret
    exact ⟨ret_int (w32 _ (by have := spreadV_in v true; unfold spreadV at this; rw [if_pos rfl] at this; omega)), rfl⟩
/-- A product; its lower and its upper half. -/
def mulP (name a b : Int) (wide : Bool) : Int := if name = 87 then wrap32 (spreadV a wide * spreadV b wide) % 4294967296 else cutW a wide * cutW b wide
def mulLo (p : Int) (wide : Bool) : Int := if wide then p % 65536 else p % 256
def mulHi (p : Int) (wide : Bool) : Int := if wide then p / 65536 else p / 256 % 256
def mulMore (name p : Int) (wide : Bool) : Bool := if name = 87 then mulHi p wide != cutW (IntKind.u16.wrap (spreadV (mulLo p wide) wide / 32768 / 2)) wide else mulHi p wide != 0
theorem lo8 (p : Int) : bits .and .u16 (IntKind.u16.wrap p) 255 = p % 256 := by
  have h := and255 (IntKind.u16.wrap p) (by rw [IntKind.wrap_u16]; omega) (by rw [IntKind.wrap_u16]; omega)
  refine h.trans ?_
  rw [IntKind.wrap_u16]
  omega
theorem ret_mul {a b c d : Int} {x y : Bool} (h : a = b) (k : c = d) (l : x = y) : Ending.returned (.tuple #[.int .u16 a, .int .u16 c, .bool x]) = .returned (.tuple #[.int .u16 b, .int .u16 d, .bool y]) := by rw [h, k, l]

set_option maxRecDepth 100000 in
set_option maxHeartbeats 800000 in
theorem mul86_any (a b : Int) (wide : Bool) (w : World) (a0 : 0 ≤ a) (a1 : a ≤ 65535) (b0 : 0 ≤ b) (b1 : b ≤ 65535) :
    Calls Tryz.prog 210 #[.int .i64 86, .int .u16 a, .int .u16 b, .bool wide] w fun e w' => e = .returned (.tuple #[.int .u16 (mulLo (mulP 86 a b wide) wide), .int .u16 (mulHi (mulP 86 a b wide) wide), .bool (mulMore 86 (mulP 86 a b wide) wide)]) ∧ w = w' := by
  have KA := Lib.hid (fun w => aluCut_any a wide w a0 a1)
  have KB := Lib.hid (fun w => aluCut_any b wide w b0 b1)
  have x0 : 0 ≤ cutW a wide ∧ cutW a wide ≤ 65535 := by unfold cutW; cases wide <;> simp <;> omega
  have y0 : 0 ≤ cutW b wide ∧ cutW b wide ≤ 65535 := by unfold cutW; cases wide <;> simp <;> omega
  have HP := Lib.hid (show mulP 86 a b wide = cutW a wide * cutW b wide from rfl)
  generalize cutW a wide = x at x0 KA HP ⊢
  generalize cutW b wide = y at y0 KB HP ⊢
  rw [HP.out]
  have p0 : 0 ≤ x * y := Int.mul_nonneg x0.1 y0.1
  have p1 : x * y ≤ 65535 * 65535 := Int.mul_le_mul x0.2 y0.2 y0.1 (by decide)
  cases wide
  · go_enter Tryz.func210, Tryz.ntmps210
    go_wp2_with (first | (go_at_call 204; with_reducible refine (KA.out _).mono ?_; rintro e w' ⟨rfl, rfl⟩) | (go_at_call 204; with_reducible refine (KB.out _).mono ?_; rintro e w' ⟨rfl, rfl⟩))
    go_ret3
    exact ⟨ret_mul (lo8 _) (lo8 _) (by rw [lo8]; rfl), rfl⟩
  · go_enter Tryz.func210, Tryz.ntmps210
    go_wp2_with (first | (go_at_call 204; with_reducible refine (KA.out _).mono ?_; rintro e w' ⟨rfl, rfl⟩) | (go_at_call 204; with_reducible refine (KB.out _).mono ?_; rintro e w' ⟨rfl, rfl⟩))
    go_ret3
    exact ⟨ret_mul (IntKind.wrap_u16 _) rfl rfl, rfl⟩

theorem mulLo_wf (p : Int) (wide : Bool) : 0 ≤ mulLo p wide ∧ mulLo p wide ≤ (if wide then 65535 else 255) := by unfold mulLo; cases wide <;> simp <;> omega
theorem mulHi_wf (p : Int) (wide : Bool) (h0 : 0 ≤ p) (h1 : p ≤ 4294967295) : 0 ≤ mulHi p wide ∧ mulHi p wide ≤ (if wide then 65535 else 255) := by unfold mulHi; cases wide <;> simp <;> omega
theorem mulP_wf (name a b : Int) (wide : Bool) (hn : name = 86 ∨ name = 87) (a0 : 0 ≤ a) (a1 : a ≤ 65535) (b0 : 0 ≤ b) (b1 : b ≤ 65535) : 0 ≤ mulP name a b wide ∧ mulP name a b wide ≤ 4294967295 := by
  unfold mulP
  rcases hn with rfl | rfl
  · rw [if_neg (by decide)]
    have x0 : 0 ≤ cutW a wide ∧ cutW a wide ≤ 65535 := by unfold cutW; cases wide <;> simp <;> omega
    have y0 : 0 ≤ cutW b wide ∧ cutW b wide ≤ 65535 := by unfold cutW; cases wide <;> simp <;> omega
    have p0 := Int.mul_nonneg x0.1 y0.1
    have p1 := Int.mul_le_mul x0.2 y0.2 y0.1 (by decide)
    exact ⟨p0, by omega⟩
  · rw [if_pos rfl]
    omega

set_option maxRecDepth 100000 in
set_option maxHeartbeats 800000 in
theorem mul87_any (a b : Int) (wide : Bool) (w : World) (a0 : 0 ≤ a) (a1 : a ≤ 65535) (b0 : 0 ≤ b) (b1 : b ≤ 65535) :
    Calls Tryz.prog 210 #[.int .i64 87, .int .u16 a, .int .u16 b, .bool wide] w fun e w' => e = .returned (.tuple #[.int .u16 (mulLo (mulP 87 a b wide) wide), .int .u16 (mulHi (mulP 87 a b wide) wide), .bool (mulMore 87 (mulP 87 a b wide) wide)]) ∧ w = w' := by
  have KA := Lib.hid (fun w => lspread_any a wide w)
  have KB := Lib.hid (fun w => lspread_any b wide w)
  have HP := Lib.hid (show wrap32 (spreadV a wide * spreadV b wide) % 4294967296 = mulP 87 a b wide from rfl)
  have hp := mulP_wf 87 a b wide (Or.inr rfl) a0 a1 b0 b1
  generalize spreadV a wide = x at KA HP
  generalize spreadV b wide = y at KB HP
  generalize mulP 87 a b wide = p at HP hp ⊢
  cases wide
  · rw [show mulLo p false = p % 256 from rfl, show mulHi p false = p / 256 % 256 from rfl]
    have hs := spreadV_in (p % 256) false
    have KL := Lib.hid (fun w => lspread_any (p % 256) false w)
    have HM := Lib.hid (show (p / 256 % 256 != cutW (IntKind.u16.wrap (spreadV (p % 256) false / 32768 / 2)) false) = mulMore 87 p false from rfl)
    generalize spreadV (p % 256) false = z at KL HM hs
    have KC := Lib.hid (fun w => aluCut_any (IntKind.u16.wrap (z / 32768 / 2)) false w (wrap16_lo _) (wrap16_hi _))
    generalize cutW (IntKind.u16.wrap (z / 32768 / 2)) false = cc at KC HM
    go_enter Tryz.func210, Tryz.ntmps210
    go_upto_region 5 with (first | (go_at_call 218; with_reducible refine (KA.out _).mono ?_; rintro e w' ⟨rfl, rfl⟩) | (go_at_call 218; with_reducible refine (KB.out _).mono ?_; rintro e w' ⟨rfl, rfl⟩))
    rw [HP.out]
    go_upto_region 8 with fail
    rw [lo8, lo8]
    go_wp2_with fail
    refine (KL.out _).mono ?_
    rintro e w' ⟨rfl, rfl⟩; dsimp only
    go_wp2_with fail
    refine (KC.out _).mono ?_
    rintro e w' ⟨rfl, rfl⟩; dsimp only
    go_wp2_with fail
    go_ret3
    exact ⟨ret_mul rfl rfl HM.out, rfl⟩
  · rw [show mulLo p true = p % 65536 from rfl, show mulHi p true = p / 65536 from rfl]
    have hs := spreadV_in (p % 65536) true
    have KL := Lib.hid (fun w => lspread_any (p % 65536) true w)
    have HM := Lib.hid (show (p / 65536 != cutW (IntKind.u16.wrap (spreadV (p % 65536) true / 32768 / 2)) true) = mulMore 87 p true from rfl)
    generalize spreadV (p % 65536) true = z at KL HM hs
    have KC := Lib.hid (fun w => aluCut_any (IntKind.u16.wrap (z / 32768 / 2)) true w (wrap16_lo _) (wrap16_hi _))
    generalize cutW (IntKind.u16.wrap (z / 32768 / 2)) true = cc at KC HM
    go_enter Tryz.func210, Tryz.ntmps210
    go_upto_region 5 with (first | (go_at_call 218; with_reducible refine (KA.out _).mono ?_; rintro e w' ⟨rfl, rfl⟩) | (go_at_call 218; with_reducible refine (KB.out _).mono ?_; rintro e w' ⟨rfl, rfl⟩))
    rw [HP.out]
    go_upto_region 8 with fail
    rw [IntKind.wrap_u16 p]
    go_wp2_with fail
    refine (KL.out _).mono ?_
    rintro e w' ⟨rfl, rfl⟩; dsimp only
    go_wp2_with fail
    refine (KC.out _).mono ?_
    rintro e w' ⟨rfl, rfl⟩; dsimp only
    go_wp2_with fail
    go_ret3
    exact ⟨ret_mul rfl rfl HM.out, rfl⟩
theorem mul_any (name a b : Int) (wide : Bool) (w : World) (hn : name = 86 ∨ name = 87) (a0 : 0 ≤ a) (a1 : a ≤ 65535) (b0 : 0 ≤ b) (b1 : b ≤ 65535) :
    Calls Tryz.prog 210 #[.int .i64 name, .int .u16 a, .int .u16 b, .bool wide] w fun e w' => e = .returned (.tuple #[.int .u16 (mulLo (mulP name a b wide) wide), .int .u16 (mulHi (mulP name a b wide) wide), .bool (mulMore name (mulP name a b wide) wide)]) ∧ w = w' := by
  rcases hn with rfl | rfl
  · exact mul86_any a b wide w a0 a1 b0 b1
  · exact mul87_any a b wide w a0 a1 b0 b1
end Go.Proofs.YtcglkefaopgjeaaGreatDoor

/- Package cpu: multiply: walk. -/
namespace Go.Proofs.YtcglkefaopgjeaaGreatDoor
set_option linter.unusedSimpArgs false
set_option linter.unusedVariables false
open Go.RowKit

/-- A product in its registers, with its flags. -/
def Regs.mulR (r : Regs) (lo hi : Int) (wide : Bool) : Regs := if wide then (r.put 0 ⟨lo, false⟩).put 2 ⟨hi, false⟩ else r.put 0 ⟨lo + 256 * hi, false⟩
def Mach.mulM (m : Mach) (name by_ : Int) (wide : Bool) : Mach :=
  (m.plain m.r.g0).setR (((m.r.mulR (mulLo (mulP name m.r.g0.v by_ wide) wide) (mulHi (mulP name m.r.g0.v by_ wide) wide) wide).withF 1 (mulMore name (mulP name m.r.g0.v by_ wide) wide)).withF 2048 (mulMore name (mulP name m.r.g0.v by_ wide) wide))

set_option maxRecDepth 100000 in
set_option maxHeartbeats 3200000 in
theorem mult_any (w : World) (C : Phys) (lv : Value) (m : Mach) (h : Own w C lv m) (name by_ : Int) (wide : Bool) (hn : name = 86 ∨ name = 87) (b0 : 0 ≤ by_) (b1 : by_ ≤ 65535) :
    Calls Tryz.prog 187 #[.pointer (some ⟨C.b, 0, none⟩), .int .i64 name, .int .u16 by_, .bool wide] w fun e w' => e = .returned (.tuple #[]) ∧ After C lv w (m.mulM name by_ wide) w' := by
  have KM := Lib.hid (fun w => mul_any name m.r.g0.v by_ wide w hn h.wf.r.g0.1 h.wf.r.g0.2 b0 b1)
  have hP := mulP_wf name m.r.g0.v by_ wide hn h.wf.r.g0.1 h.wf.r.g0.2 b0 b1
  have HD := Lib.hid (show m.mulM name by_ wide = (m.plain m.r.g0).setR (((m.r.mulR (mulLo (mulP name m.r.g0.v by_ wide) wide) (mulHi (mulP name m.r.g0.v by_ wide) wide) wide).withF 1 (mulMore name (mulP name m.r.g0.v by_ wide) wide)).withF 2048 (mulMore name (mulP name m.r.g0.v by_ wide) wide)) from rfl)
  generalize mulP name m.r.g0.v by_ wide = P at KM HD hP
  have hlo := mulLo_wf P wide
  have hhi := mulHi_wf P wide hP.1 hP.2
  have HWL := Lib.hid (show V.wf ⟨mulLo P wide, false⟩ from ⟨hlo.1, Int.le_trans hlo.2 (by cases wide <;> decide)⟩)
  have HWH := Lib.hid (show V.wf ⟨mulHi P wide, false⟩ from ⟨hhi.1, Int.le_trans hhi.2 (by cases wide <;> decide)⟩)
  generalize mulLo P wide = lo at KM HD HWL hlo
  generalize mulHi P wide = hi at KM HD HWH hhi
  generalize mulMore name P wide = more at KM HD
  have HWF := Lib.hid h.wf.r
  have HO0 := Lib.hid h; have HA0 := Lib.hid (Acc.refl C lv w); have sc := HO0.out.sees.c; have sf := HO0.out.sees.f; have sr := HO0.out.sees.r; have ss := HO0.out.sees.s; have sl := HO0.out.sees.l; clear h
  go_enter Tryz.func187, Tryz.ntmps187
  go_wp2_with fail
  refine (get_any m.r 0 _).mono ?_
  rw [show m.r.get 0 = m.r.g0 from rfl]
  rintro e w1 ⟨rfl, hb⟩; dsimp only
  have HO1 := Lib.hid (HO0.out.below hb)
  have HA1 := Lib.hid (HA0.out.below hb)
  clear sc sf sr ss sl; clear hb
  go_wp2_with fail
  refine (plain_any _ _ _ _ HO1.out m.r.g0).mono ?_
  have HR := Lib.hid (plain_r m m.r.g0)
  generalize m.plain m.r.g0 = m2 at HD HR
  rintro e w2 ⟨rfl, lv2, h2, f2, k2⟩; dsimp only
  have HO2 := Lib.hid h2
  have HA2 := Lib.hid (HA1.out.trans ⟨f2, k2⟩)
  clear h2 f2 k2
  go_wp2_with fail
  refine (KM.out _).mono ?_
  rintro e w' ⟨rfl, rfl⟩; dsimp only
  obtain ⟨r, hr⟩ : ∃ r, m.r = r := ⟨_, rfl⟩
  rw [hr] at HR HD HWF
  clear hr KM
  cases wide with
  | true =>
    have w3 := Regs.put_wf HWF.out 0 HWL.out
    have w4 := Regs.put_wf w3 2 HWH.out
    have KP := Lib.hid (fun w => put_any r 0 ⟨lo, false⟩ w)
    have HE := Lib.hid (show m.mulM name by_ true = m2.setR ((((r.put 0 ⟨lo, false⟩).put 2 ⟨hi, false⟩).withF 1 more).withF 2048 more) from HD.out)
    clear HD
    generalize r.put 0 ⟨lo, false⟩ = r3 at w3 w4 KP HE
    have KQ := Lib.hid (fun w => put_any r3 2 ⟨hi, false⟩ w)
    generalize r3.put 2 ⟨hi, false⟩ = r4 at w4 KQ HE
    have W3 := Lib.hid w3
    have W4 := Lib.hid w4
    clear w3 w4
    have sc := HO2.out.sees.c; have sf := HO2.out.sees.f; have sr := HO2.out.sees.r; have ss := HO2.out.sees.s; have sl := HO2.out.sees.l
    rw [HR.out] at sr
    go_wp2_with fail
    refine (KP.out _).mono ?_
    rintro e w3 ⟨rfl, hb⟩; dsimp only
    have HO3 := Lib.hid (HO2.out.below hb)
    have HA3 := Lib.hid (HA2.out.below hb)
    clear sc sf sr ss sl; clear hb
    have sc := HO3.out.sees.c; have sf := HO3.out.sees.f; have sr := HO3.out.sees.r; have ss := HO3.out.sees.s; have sl := HO3.out.sees.l
    go_upto_region 4 with fail
    have HO4 := Lib.hid (HO3.out.putR r3 W3.out)
    have HA4 := Lib.hid (HA3.out.putR r3)
    clear sc sf sr ss sl
    generalize putR w3 C.b r3 = w4 at HO4 HA4 ⊢
    have sc := HO4.out.sees.c; have sf := HO4.out.sees.f; have sr := HO4.out.sees.r; have ss := HO4.out.sees.s; have sl := HO4.out.sees.l
    replace sr : regsIn w4 C.b = some r3.val := sr
    go_wp2_with fail
    refine (KQ.out _).mono ?_
    rintro e w5 ⟨rfl, hb⟩; dsimp only
    have HO5 := Lib.hid (HO4.out.below hb)
    have HA5 := Lib.hid (HA4.out.below hb)
    clear sc sf sr ss sl; clear hb
    have sc := HO5.out.sees.c; have sf := HO5.out.sees.f; have sr := HO5.out.sees.r; have ss := HO5.out.sees.s; have sl := HO5.out.sees.l
    go_upto_region 6 with fail
    have HO6 := Lib.hid (HO5.out.putR r4 W4.out)
    have HA6 := Lib.hid (HA5.out.putR r4)
    clear sc sf sr ss sl
    generalize putR w5 C.b r4 = w6 at HO6 HA6 ⊢
    have sc := HO6.out.sees.c; have sf := HO6.out.sees.f; have sr := HO6.out.sees.r; have ss := HO6.out.sees.s; have sl := HO6.out.sees.l
    replace sr : regsIn w6 C.b = some r4.val := sr
    have KV := Lib.hid (fun w => with_any r4 1 more w)
    have w5f := withF_wf W4.out 1 more
    generalize r4.withF 1 more = r5 at KV HE w5f
    have KW := Lib.hid (fun w => with_any r5 2048 more w)
    have w6f := withF_wf w5f 2048 more
    generalize r5.withF 2048 more = r6 at KW HE w6f
    have W6 := Lib.hid w6f
    clear w5f w6f
    go_wp2_with fail
    refine (KV.out _).mono ?_
    rintro e w7 ⟨rfl, hb⟩; dsimp only
    have HO7 := Lib.hid (HO6.out.below hb)
    have HA7 := Lib.hid (HA6.out.below hb)
    clear sc sf sr ss sl; clear hb
    go_wp2_with fail
    refine (KW.out _).mono ?_
    rintro e w8 ⟨rfl, hb⟩; dsimp only
    have HO8 := Lib.hid (HO7.out.below hb)
    have HA8 := Lib.hid (HA7.out.below hb)
    clear hb
    have sc := HO8.out.sees.c; have sf := HO8.out.sees.f; have sr := HO8.out.sees.r; have ss := HO8.out.sees.s; have sl := HO8.out.sees.l
    go_wp2_with fail
    (first | go_end0 | (((try simp only [Exit.inBlock, Exit.then]); refine bodyPost_ret (results_none rfl _ _ _) rfl ?_)))
    rw [HE.out]
    exact ⟨rfl, After.mk (HO8.out.putR _ W6.out) (HA8.out.putR _)⟩
  | false =>
    have HWX := Lib.hid (show V.wf ⟨lo + 256 * hi, false⟩ from ⟨by dsimp only; omega, by dsimp only; simp at hlo hhi; omega⟩)
    have w4 := Regs.put_wf HWF.out 0 HWX.out
    have hhi2 : hi ≤ 255 := by have := hhi.2; simpa using this
    have eor : bits .or .u16 lo (IntKind.u16.wrap (hi * 256)) = lo + 256 * hi := by rw [show IntKind.u16.wrap (hi * 256) = hi * 256 by rw [IntKind.wrap_u16]; have := hhi.1; omega]; exact word_bits lo hi hlo.1 hlo.2 hhi.1 hhi2
    clear hhi2 hhi hlo
    have KQ := Lib.hid (fun w => put_any r 0 ⟨lo + 256 * hi, false⟩ w)
    have HE := Lib.hid (show m.mulM name by_ false = m2.setR (((r.put 0 ⟨lo + 256 * hi, false⟩).withF 1 more).withF 2048 more) from HD.out)
    clear HD
    generalize r.put 0 ⟨lo + 256 * hi, false⟩ = r4 at w4 KQ HE
    have W4 := Lib.hid w4
    clear w4
    have sc := HO2.out.sees.c; have sf := HO2.out.sees.f; have sr := HO2.out.sees.r; have ss := HO2.out.sees.s; have sl := HO2.out.sees.l
    rw [HR.out] at sr
    go_wp2_with fail
    refine (KQ.out _).mono ?_
    rintro e w5 ⟨rfl, hb⟩; dsimp only
    have HO5 := Lib.hid (HO2.out.below hb)
    have HA5 := Lib.hid (HA2.out.below hb)
    clear sc sf sr ss sl; clear hb
    have sc := HO5.out.sees.c; have sf := HO5.out.sees.f; have sr := HO5.out.sees.r; have ss := HO5.out.sees.s; have sl := HO5.out.sees.l
    go_upto_region 6 with fail
    have HO6 := Lib.hid (HO5.out.putR r4 W4.out)
    have HA6 := Lib.hid (HA5.out.putR r4)
    clear sc sf sr ss sl
    generalize putR w5 C.b r4 = w6 at HO6 HA6 ⊢
    have sc := HO6.out.sees.c; have sf := HO6.out.sees.f; have sr := HO6.out.sees.r; have ss := HO6.out.sees.s; have sl := HO6.out.sees.l
    replace sr : regsIn w6 C.b = some r4.val := sr
    have KV := Lib.hid (fun w => with_any r4 1 more w)
    have w5f := withF_wf W4.out 1 more
    generalize r4.withF 1 more = r5 at KV HE w5f
    have KW := Lib.hid (fun w => with_any r5 2048 more w)
    have w6f := withF_wf w5f 2048 more
    generalize r5.withF 2048 more = r6 at KW HE w6f
    have W6 := Lib.hid w6f
    clear w5f w6f
    go_wp2_with fail
    refine (KV.out _).mono ?_
    rintro e w7 ⟨rfl, hb⟩; dsimp only
    have HO7 := Lib.hid (HO6.out.below hb)
    have HA7 := Lib.hid (HA6.out.below hb)
    clear sc sf sr ss sl; clear hb
    go_wp2_with fail
    refine (KW.out _).mono ?_
    rintro e w8 ⟨rfl, hb⟩; dsimp only
    have HO8 := Lib.hid (HO7.out.below hb)
    have HA8 := Lib.hid (HA7.out.below hb)
    clear hb
    have sc := HO8.out.sees.c; have sf := HO8.out.sees.f; have sr := HO8.out.sees.r; have ss := HO8.out.sees.s; have sl := HO8.out.sees.l
    go_wp2_with fail
    (first | go_end0 | (((try simp only [Exit.inBlock, Exit.then]); refine bodyPost_ret (results_none rfl _ _ _) rfl ?_)))
    rw [HE.out]
    exact ⟨rfl, After.mk (HO8.out.putR _ W6.out) (HA8.out.putR _)⟩
end Go.Proofs.YtcglkefaopgjeaaGreatDoor

/- Package long: signed, Div; package cpu: divide: walks. -/
namespace Go.Proofs.YtcglkefaopgjeaaGreatDoor
set_option linter.unusedSimpArgs false
set_option linter.unusedVariables false
open Go.RowKit

def divN (low high : Int) (wide : Bool) : Int := if wide then high * 65536 + low else high % 256 * 256 + low % 256
def signedA (n : Int) (wide : Bool) : Int := if wide then wrap32 n else IntKind.i16.wrap n
def signedV (n y : Int) (wide : Bool) : Int × Int × Bool :=
  let q := (signedA n wide).tdiv (spreadV y wide)
  let r := (signedA n wide).tmod (spreadV y wide)
  let most : Int := if wide then 32767 else 127
  if most < q ∨ q < -most then (0, 0, false) else (cutW (IntKind.u16.wrap q) wide, cutW (IntKind.u16.wrap r) wide, true)
def divV (name low high by_ : Int) (wide : Bool) : Int × Int × Bool :=
  if cutW by_ wide = 0 then (0, 0, false)
  else if name = 89 then signedV (divN low high wide) (cutW by_ wide) wide
  else if cutW 65535 wide < divN low high wide / cutW by_ wide then (0, 0, false)
  else (divN low high wide / cutW by_ wide, divN low high wide % cutW by_ wide, true)
theorem signedA_in (n : Int) (wide : Bool) : -2147483648 ≤ signedA n wide ∧ signedA n wide ≤ 2147483647 := by
  unfold signedA
  cases wide
  · rw [if_neg (by decide)]
    simp [IntKind.wrap, IntKind.bits, IntKind.signed]
    split <;> omega
  · rw [if_pos rfl]
    unfold wrap32
    omega
theorem spreadV_ne (y : Int) (wide : Bool) (h0 : 0 < y) (h1 : y ≤ (if wide then 65535 else 255)) : spreadV y wide ≠ 0 := by
  unfold spreadV
  cases wide
  · rw [if_neg (by decide)]
    simp at h1
    simp [IntKind.wrap, IntKind.bits, IntKind.signed]
    split <;> omega
  · rw [if_pos rfl]
    simp at h1
    simp [IntKind.wrap, IntKind.bits, IntKind.signed]
    split <;> omega
theorem tdiv_in (a b : Int) (h : -2147483648 ≤ a ∧ a ≤ 2147483647) : -2147483648 ≤ a.tdiv b ∧ a.tdiv b ≤ 2147483648 := by
  have h1 : (a.tdiv b).natAbs ≤ a.natAbs := by rw [Int.natAbs_tdiv]; exact Nat.div_le_self _ _
  omega
theorem tmod_in (a b : Int) (h : -2147483648 ≤ a ∧ a ≤ 2147483647) : -2147483648 ≤ a.tmod b ∧ a.tmod b ≤ 2147483648 := by
  have h1 : (a.tmod b).natAbs ≤ a.natAbs := by rw [Int.natAbs_tmod]; exact Nat.mod_le _ _
  omega
set_option maxRecDepth 100000 in
set_option maxHeartbeats 800000 in
theorem signed_any (n y : Int) (wide : Bool) (w : World) (y0 : 0 < y) (y1 : y ≤ (if wide then 65535 else 255)) :
    Calls Tryz.prog 219 #[.int .u32 n, .int .u16 y, .bool wide] w fun e w' => e = .returned (.tuple #[.int .u16 (signedV n y wide).1, .int .u16 (signedV n y wide).2.1, .bool (signedV n y wide).2.2]) ∧ Below w.heap.size w w' := by
  have KS := Lib.hid (fun w => lspread_any y wide w)
  have hb := spreadV_ne y wide y0 y1
  have hbi := spreadV_in y wide
  have hai := signedA_in n wide
  have HV := Lib.hid (show signedV n y wide = if (if wide then (32767 : Int) else 127) < (signedA n wide).tdiv (spreadV y wide) ∨ (signedA n wide).tdiv (spreadV y wide) < -(if wide then (32767 : Int) else 127) then (0, 0, false) else (cutW (IntKind.u16.wrap ((signedA n wide).tdiv (spreadV y wide))) wide, cutW (IntKind.u16.wrap ((signedA n wide).tmod (spreadV y wide))) wide, true) from rfl)
  generalize spreadV y wide = b at KS hb hbi HV
  generalize signedV n y wide = V at HV ⊢
  have hb0 : (b == 0) = false := by simpa using hb
  cases wide
  · obtain ⟨a, ha⟩ : ∃ a, signedA n false = a := ⟨_, rfl⟩
    rw [ha] at HV hai
    have hq := tdiv_in a b hai
    have hr := tmod_in a b hai
    have HA := Lib.hid (show IntKind.i16.wrap n = a from ha)
    have wa : wrap64 a = a := by unfold wrap64; omega
    have wq : wrap64 (a.tdiv b) = a.tdiv b := by unfold wrap64; omega
    have KQ := Lib.hid (fun w => aluCut_any (IntKind.u16.wrap (a.tdiv b)) false w (wrap16_lo _) (wrap16_hi _))
    have KR := Lib.hid (fun w => aluCut_any (IntKind.u16.wrap (a.tmod b)) false w (wrap16_lo _) (wrap16_hi _))
    have HV2 := Lib.hid (show V = if 127 < a.tdiv b ∨ a.tdiv b < -127 then (0, 0, false) else (cutW (IntKind.u16.wrap (a.tdiv b)) false, cutW (IntKind.u16.wrap (a.tmod b)) false, true) from HV.out)
    clear HV ha
    generalize cutW (IntKind.u16.wrap (a.tdiv b)) false = cq at KQ HV2
    generalize cutW (IntKind.u16.wrap (a.tmod b)) false = cr at KR HV2
    go_enter Tryz.func219, Tryz.ntmps219
    go_upto_region 4 with fail
    rw [HA.out, wa]
    go_wp2_with fail
    refine (KS.out _).mono ?_
    rintro e w' ⟨rfl, rfl⟩; dsimp only
    go_upto_region 5 with fail
    go_region
    all_goals
      generalize a.tdiv b = q at hq KQ HV2 wq ⊢
      generalize a.tmod b = r at hr KR HV2 ⊢
      by_cases h1 : 127 < q
      · have HW := Lib.hid (show V = (0, 0, false) by rw [HV2.out, if_pos (Or.inl h1)])
        clear HV2
        go_wp2_with fail
        go_ret3
        rw [HW.out]
        exact ⟨rfl, (Below.refl _ _).drew⟩
      · by_cases h2 : q < -127
        · have HW := Lib.hid (show V = (0, 0, false) by rw [HV2.out, if_pos (Or.inr h2)])
          clear HV2
          go_wp2_with fail
          go_ret3
          rw [HW.out]
          exact ⟨rfl, (Below.refl _ _).drew⟩
        · have HW := Lib.hid (show V = (cq, cr, true) by rw [HV2.out, if_neg (fun e => e.elim h1 h2)])
          clear HV2
          go_wp2_with (first | (go_at_call 204; with_reducible refine (KQ.out _).mono ?_; rintro e w' ⟨rfl, rfl⟩) | (go_at_call 204; with_reducible refine (KR.out _).mono ?_; rintro e w' ⟨rfl, rfl⟩))
          go_ret3
          rw [HW.out]
          exact ⟨rfl, (Below.refl _ _).drew⟩
  · obtain ⟨a, ha⟩ : ∃ a, signedA n true = a := ⟨_, rfl⟩
    rw [ha] at HV hai
    have hq := tdiv_in a b hai
    have hr := tmod_in a b hai
    have HA := Lib.hid (show wrap32 n = a from ha)
    have wa : wrap64 a = a := by unfold wrap64; omega
    have wq : wrap64 (a.tdiv b) = a.tdiv b := by unfold wrap64; omega
    have KQ := Lib.hid (fun w => aluCut_any (IntKind.u16.wrap (a.tdiv b)) true w (wrap16_lo _) (wrap16_hi _))
    have KR := Lib.hid (fun w => aluCut_any (IntKind.u16.wrap (a.tmod b)) true w (wrap16_lo _) (wrap16_hi _))
    have HV2 := Lib.hid (show V = if 32767 < a.tdiv b ∨ a.tdiv b < -32767 then (0, 0, false) else (cutW (IntKind.u16.wrap (a.tdiv b)) true, cutW (IntKind.u16.wrap (a.tmod b)) true, true) from HV.out)
    clear HV ha
    generalize cutW (IntKind.u16.wrap (a.tdiv b)) true = cq at KQ HV2
    generalize cutW (IntKind.u16.wrap (a.tmod b)) true = cr at KR HV2
    go_enter Tryz.func219, Tryz.ntmps219
    go_upto_region 4 with fail
    rw [HA.out, wa]
    go_wp2_with fail
    refine (KS.out _).mono ?_
    rintro e w' ⟨rfl, rfl⟩; dsimp only
    go_upto_region 5 with fail
    go_region
    all_goals
      generalize a.tdiv b = q at hq KQ HV2 wq ⊢
      generalize a.tmod b = r at hr KR HV2 ⊢
      by_cases h1 : 32767 < q
      · have HW := Lib.hid (show V = (0, 0, false) by rw [HV2.out, if_pos (Or.inl h1)])
        clear HV2
        go_wp2_with fail
        go_ret3
        rw [HW.out]
        exact ⟨rfl, (Below.refl _ _).drew⟩
      · by_cases h2 : q < -32767
        · have HW := Lib.hid (show V = (0, 0, false) by rw [HV2.out, if_pos (Or.inr h2)])
          clear HV2
          go_wp2_with fail
          go_ret3
          rw [HW.out]
          exact ⟨rfl, (Below.refl _ _).drew⟩
        · have HW := Lib.hid (show V = (cq, cr, true) by rw [HV2.out, if_neg (fun e => e.elim h1 h2)])
          clear HV2
          go_wp2_with (first | (go_at_call 204; with_reducible refine (KQ.out _).mono ?_; rintro e w' ⟨rfl, rfl⟩) | (go_at_call 204; with_reducible refine (KR.out _).mono ?_; rintro e w' ⟨rfl, rfl⟩))
          go_ret3
          rw [HW.out]
          exact ⟨rfl, (Below.refl _ _).drew⟩
theorem or32_16 (x y : Int) (h1 : 0 ≤ x) (h2 : x ≤ 65535) (h3 : 0 ≤ y) (h4 : y ≤ 65535) : bits .or .u32 (x * 65536) y = x * 65536 + y := by
  rw [u32_or _ _ (by omega) (by omega) (by omega) (by omega), nat_join 16 (x * 65536).toNat y.toNat (by omega) (by omega)]
  omega
theorem or32_8 (x y : Int) (h1 : 0 ≤ x) (h2 : x ≤ 255) (h3 : 0 ≤ y) (h4 : y ≤ 255) : bits .or .u32 (x * 256) y = x * 256 + y := by
  rw [u32_or _ _ (by omega) (by omega) (by omega) (by omega), nat_join 8 (x * 256).toNat y.toNat (by omega) (by omega)]
  omega
set_option maxRecDepth 100000 in
set_option maxHeartbeats 1600000 in
theorem div_any (name low high b : Int) (wide : Bool) (w : World) (hn : name = 88 ∨ name = 89) (l0 : 0 ≤ low) (l1 : low ≤ 65535) (h0 : 0 ≤ high) (h1 : high ≤ 65535) (b0 : 0 ≤ b) (b1 : b ≤ 65535) :
    Calls Tryz.prog 211 #[.int .i64 name, .int .u16 low, .int .u16 high, .int .u16 b, .bool wide] w fun e w' => e = .returned (.tuple #[.int .u16 (divV name low high b wide).1, .int .u16 (divV name low high b wide).2.1, .bool (divV name low high b wide).2.2]) ∧ Below w.heap.size w w' := by
  have KB := Lib.hid (fun w => aluCut_any b wide w b0 b1)
  have KM := Lib.hid (fun w => aluCut_any 65535 wide w (by decide) (by decide))
  have hy : 0 ≤ cutW b wide ∧ cutW b wide ≤ (if wide then 65535 else 255) := by unfold cutW; cases wide <;> simp <;> omega
  have hm : 0 ≤ cutW 65535 wide ∧ cutW 65535 wide ≤ 65535 := by unfold cutW; cases wide <;> simp
  have HV := Lib.hid (show divV name low high b wide = if cutW b wide = 0 then (0, 0, false) else if name = 89 then signedV (divN low high wide) (cutW b wide) wide else if cutW 65535 wide < divN low high wide / cutW b wide then (0, 0, false) else (divN low high wide / cutW b wide, divN low high wide % cutW b wide, true) from rfl)
  have hnn : 0 ≤ divN low high wide ∧ divN low high wide ≤ 4294967295 := by unfold divN; cases wide <;> simp <;> omega
  obtain ⟨n, hnd⟩ : ∃ n, divN low high wide = n := ⟨_, rfl⟩
  rw [hnd] at HV hnn
  generalize divV name low high b wide = V at HV ⊢
  generalize cutW b wide = y at KB hy HV
  generalize cutW 65535 wide = cm at KM hm HV
  have hd := Lib.hid hnd
  clear hnd
  have ks : y ≠ 0 → ∀ w, Calls Tryz.prog 219 #[.int .u32 n, .int .u16 y, .bool wide] w fun e w' => e = .returned (.tuple #[.int .u16 (signedV n y wide).1, .int .u16 (signedV n y wide).2.1, .bool (signedV n y wide).2.2]) ∧ Below w.heap.size w w' := fun hz w => signed_any n y wide w (by omega) hy.2
  have KS := Lib.hid ks
  clear ks
  have hy2 : y ≤ 65535 := by cases wide <;> simp at hy <;> omega
  have hy1 := hy.1
  clear hy
  have e1 := or32_16 high low h0 h1 l0 l1
  have e2 := or32_8 (high % 256) (low % 256) (by omega) (by omega) (by omega) (by omega)
  have e3 := and255 high h0 h1
  have e4 := and255 low l0 l1
  cases wide
  · have HN := Lib.hid (show high % 256 * 256 + low % 256 = n from hd.out)
    clear hd
    go_enter Tryz.func211, Tryz.ntmps211
    go_upto_region 5 with (go_at_call 204; with_reducible refine (KB.out _).mono ?_; rintro e w' ⟨rfl, rfl⟩)
    rw [HN.out]
    by_cases hz : y = 0
    · have HW := Lib.hid (show V = (0, 0, false) by rw [HV.out, if_pos hz])
      have hzb : (y == 0) = true := by simp [hz]
      clear HV hz
      go_wp2_with fail
      go_ret3
      rw [HW.out]
      exact ⟨rfl, Below.refl _ _⟩
    · have hzb : (y == 0) = false := by simp [hz]
      rcases hn with rfl | rfl
      · have HV2 := Lib.hid (show V = if cm < n / y then (0, 0, false) else (n / y, n % y, true) by rw [HV.out, if_neg hz, if_neg (by decide)])
        have q0 : n.tdiv y = n / y := Int.tdiv_eq_ediv_of_nonneg hnn.1
        have q1 : n.tmod y = n % y := Int.tmod_eq_emod_of_nonneg hnn.1
        have r0 : 0 ≤ n % y ∧ n % y ≤ 65535 := ⟨Int.emod_nonneg n hz, by have := Int.emod_lt_of_pos n (show 0 < y by omega); omega⟩
        have s0 : 0 ≤ n / y ∧ n / y ≤ 4294967295 := ⟨Int.ediv_nonneg hnn.1 hy1, Int.le_trans (Int.ediv_le_self y hnn.1) hnn.2⟩
        clear HV KS
        go_upto_region 9 with fail
        go_region
        all_goals
          generalize n / y = q at s0 HV2 ⊢
          generalize n % y = r at r0 HV2 ⊢
          go_wp2_with fail
          refine (KM.out _).mono ?_
          rintro e w' ⟨rfl, rfl⟩; dsimp only
          by_cases h2 : cm < q
          · have HW := Lib.hid (show V = (0, 0, false) by rw [HV2.out, if_pos h2])
            clear HV2
            go_wp2_with fail
            go_ret3
            rw [HW.out]
            exact ⟨rfl, (Below.refl _ _).drew⟩
          · have HW := Lib.hid (show V = (q, r, true) by rw [HV2.out, if_neg h2])
            clear HV2
            go_wp2_with fail
            go_ret3
            rw [HW.out]
            exact ⟨rfl, (Below.refl _ _).drew⟩
      · have HW := Lib.hid (show V = signedV n y false by rw [HV.out, if_neg hz, if_pos rfl])
        have KS2 := Lib.hid (KS.out hz)
        clear HV KS hz
        go_wp2_with fail
        refine (KS2.out _).mono ?_
        rw [← HW.out]
        clear HW KS2
        obtain ⟨v1, v2, v3⟩ := V
        rintro e w1 ⟨rfl, hb⟩; dsimp only
        go_wp2_with fail
        go_ret3
        exact ⟨rfl, hb⟩
  · have HN := Lib.hid (show high * 65536 + low = n from hd.out)
    clear hd
    go_enter Tryz.func211, Tryz.ntmps211
    go_upto_region 5 with (go_at_call 204; with_reducible refine (KB.out _).mono ?_; rintro e w' ⟨rfl, rfl⟩)
    rw [HN.out]
    by_cases hz : y = 0
    · have HW := Lib.hid (show V = (0, 0, false) by rw [HV.out, if_pos hz])
      have hzb : (y == 0) = true := by simp [hz]
      clear HV hz
      go_wp2_with fail
      go_ret3
      rw [HW.out]
      exact ⟨rfl, Below.refl _ _⟩
    · have hzb : (y == 0) = false := by simp [hz]
      rcases hn with rfl | rfl
      · have HV2 := Lib.hid (show V = if cm < n / y then (0, 0, false) else (n / y, n % y, true) by rw [HV.out, if_neg hz, if_neg (by decide)])
        have q0 : n.tdiv y = n / y := Int.tdiv_eq_ediv_of_nonneg hnn.1
        have q1 : n.tmod y = n % y := Int.tmod_eq_emod_of_nonneg hnn.1
        have r0 : 0 ≤ n % y ∧ n % y ≤ 65535 := ⟨Int.emod_nonneg n hz, by have := Int.emod_lt_of_pos n (show 0 < y by omega); omega⟩
        have s0 : 0 ≤ n / y ∧ n / y ≤ 4294967295 := ⟨Int.ediv_nonneg hnn.1 hy1, Int.le_trans (Int.ediv_le_self y hnn.1) hnn.2⟩
        clear HV KS
        go_upto_region 9 with fail
        go_region
        all_goals
          generalize n / y = q at s0 HV2 ⊢
          generalize n % y = r at r0 HV2 ⊢
          go_wp2_with fail
          refine (KM.out _).mono ?_
          rintro e w' ⟨rfl, rfl⟩; dsimp only
          by_cases h2 : cm < q
          · have HW := Lib.hid (show V = (0, 0, false) by rw [HV2.out, if_pos h2])
            clear HV2
            go_wp2_with fail
            go_ret3
            rw [HW.out]
            exact ⟨rfl, (Below.refl _ _).drew⟩
          · have HW := Lib.hid (show V = (q, r, true) by rw [HV2.out, if_neg h2])
            clear HV2
            go_wp2_with fail
            go_ret3
            rw [HW.out]
            exact ⟨rfl, (Below.refl _ _).drew⟩
      · have HW := Lib.hid (show V = signedV n y true by rw [HV.out, if_neg hz, if_pos rfl])
        have KS2 := Lib.hid (KS.out hz)
        clear HV KS hz
        go_wp2_with fail
        refine (KS2.out _).mono ?_
        rw [← HW.out]
        clear HW KS2
        obtain ⟨v1, v2, v3⟩ := V
        rintro e w1 ⟨rfl, hb⟩; dsimp only
        go_wp2_with fail
        go_ret3
        exact ⟨rfl, hb⟩
end Go.Proofs.YtcglkefaopgjeaaGreatDoor

/- Package cpu: divide: walk. -/
namespace Go.Proofs.YtcglkefaopgjeaaGreatDoor
set_option linter.unusedSimpArgs false
set_option linter.unusedVariables false
open Go.RowKit

def limW (wide : Bool) : Int := if wide then 65535 else 255
theorem cut_lim (n : Int) (wide : Bool) (h0 : 0 ≤ n) (h1 : n ≤ 65535) : 0 ≤ cutW n wide ∧ cutW n wide ≤ limW wide := by unfold cutW limW; cases wide <;> simp <;> omega
theorem divV_wf (name low high b : Int) (wide : Bool) (l0 : 0 ≤ low) (l1 : low ≤ 65535) (h0 : 0 ≤ high) (h1 : high ≤ 65535) (b0 : 0 ≤ b) (b1 : b ≤ 65535) :
    (0 ≤ (divV name low high b wide).1 ∧ (divV name low high b wide).1 ≤ limW wide) ∧ (0 ≤ (divV name low high b wide).2.1 ∧ (divV name low high b wide).2.1 ≤ limW wide) := by
  have z : 0 ≤ (0 : Int) ∧ (0 : Int) ≤ limW wide := by unfold limW; cases wide <;> simp
  have hb := cut_lim b wide b0 b1
  have hc := cut_lim 65535 wide (by decide) (by decide)
  have hn : 0 ≤ divN low high wide := by unfold divN; cases wide <;> simp <;> omega
  unfold divV
  generalize divN low high wide = n at hn ⊢
  generalize cutW b wide = y at hb ⊢
  by_cases e : y = 0
  · rw [if_pos e]; exact ⟨z, z⟩
  · rw [if_neg e]
    by_cases k : name = 89
    · rw [if_pos k]
      unfold signedV
      dsimp only
      generalize (if wide = true then (32767 : Int) else 127) = most
      split
      · exact ⟨z, z⟩
      · exact ⟨cut_lim _ wide (wrap16_lo _) (wrap16_hi _), cut_lim _ wide (wrap16_lo _) (wrap16_hi _)⟩
    · rw [if_neg k]
      split
      · exact ⟨z, z⟩
      · next h =>
        have e1 := Int.ediv_nonneg hn hb.1
        have e2 := Int.emod_nonneg n e
        have e3 := Int.emod_lt_of_pos n (show 0 < y by omega)
        exact ⟨⟨e1, by dsimp only; omega⟩, ⟨e2, by dsimp only; omega⟩⟩
theorem limW_le (wide : Bool) : limW wide ≤ 65535 := by cases wide <;> decide
def Mach.divM (m : Mach) (name by_ : Int) (wide : Bool) : Mach :=
  let m1 := if wide then (m.plain m.r.g0).plain m.r.g2 else m.plain m.r.g0
  let D := divV name (if wide then m.r.g0.v else m.r.g0.v % 256) (if wide then m.r.g2.v else m.r.g0.v / 256) by_ wide
  if D.2.2 then m1.setR (m.r.mulR D.1 D.2.1 wide) else m1.end 5

set_option maxRecDepth 100000 in
set_option maxHeartbeats 3200000 in
theorem divi_true (w : World) (C : Phys) (lv : Value) (m : Mach) (h : Own w C lv m) (name by_ : Int) (hn : name = 88 ∨ name = 89) (b0 : 0 ≤ by_) (b1 : by_ ≤ 65535) :
    Calls Tryz.prog 188 #[.pointer (some ⟨C.b, 0, none⟩), .int .i64 name, .int .u16 by_, .bool true] w fun e w' => e = .returned (.tuple #[]) ∧ After C lv w (m.divM name by_ true) w' := by
  have KD := Lib.hid (fun w => div_any name m.r.g0.v m.r.g2.v by_ true w hn h.wf.r.g0.1 h.wf.r.g0.2 h.wf.r.g2.1 h.wf.r.g2.2 b0 b1)
  have hP := divV_wf name m.r.g0.v m.r.g2.v by_ true h.wf.r.g0.1 h.wf.r.g0.2 h.wf.r.g2.1 h.wf.r.g2.2 b0 b1
  have HD := Lib.hid (show m.divM name by_ true = if (divV name m.r.g0.v m.r.g2.v by_ true).2.2 then ((m.plain m.r.g0).plain m.r.g2).setR (m.r.mulR (divV name m.r.g0.v m.r.g2.v by_ true).1 (divV name m.r.g0.v m.r.g2.v by_ true).2.1 true) else ((m.plain m.r.g0).plain m.r.g2).end 5 from rfl)
  generalize divV name m.r.g0.v m.r.g2.v by_ true = D at KD HD hP
  obtain ⟨q, rest, ok⟩ := D
  dsimp only at KD HD hP
  have HWL := Lib.hid (show V.wf ⟨q, false⟩ from ⟨hP.1.1, hP.1.2⟩)
  have HWH := Lib.hid (show V.wf ⟨rest, false⟩ from ⟨hP.2.1, hP.2.2⟩)
  clear hP
  have HWF := Lib.hid h.wf.r
  have HO0 := Lib.hid h; have HA0 := Lib.hid (Acc.refl C lv w); have sc := HO0.out.sees.c; have sf := HO0.out.sees.f; have sr := HO0.out.sees.r; have ss := HO0.out.sees.s; have sl := HO0.out.sees.l; clear h
  go_enter Tryz.func188, Tryz.ntmps188
  go_wp2_with fail
  refine (get_any m.r 0 _).mono ?_
  rw [show m.r.get 0 = m.r.g0 from rfl]
  rintro e w1 ⟨rfl, hb⟩; dsimp only
  have HO1 := Lib.hid (HO0.out.below hb)
  have HA1 := Lib.hid (HA0.out.below hb)
  clear sc sf sr ss sl; clear hb
  go_wp2_with fail
  refine (plain_any _ _ _ _ HO1.out m.r.g0).mono ?_
  have HR := Lib.hid (plain_r m m.r.g0)
  generalize m.plain m.r.g0 = m2 at HD HR
  rintro e w2 ⟨rfl, lv2, h2, f2, k2⟩; dsimp only
  have HO2 := Lib.hid h2
  have HA2 := Lib.hid (HA1.out.trans ⟨f2, k2⟩)
  clear h2 f2 k2
  have sc := HO2.out.sees.c; have sf := HO2.out.sees.f; have sr := HO2.out.sees.r; have ss := HO2.out.sees.s; have sl := HO2.out.sees.l
  rw [HR.out] at sr
  go_wp2_with fail
  refine (get_any m.r 2 _).mono ?_
  rw [show m.r.get 2 = m.r.g2 from rfl]
  rintro e w3 ⟨rfl, hb⟩; dsimp only
  have HO3 := Lib.hid (HO2.out.below hb)
  have HA3 := Lib.hid (HA2.out.below hb)
  clear sc sf sr ss sl; clear hb
  go_wp2_with fail
  refine (plain_any _ _ _ _ HO3.out m.r.g2).mono ?_
  have HR2 := Lib.hid ((plain_r m2 m.r.g2).trans HR.out)
  generalize m2.plain m.r.g2 = m3 at HD HR2
  rintro e w4 ⟨rfl, lv4, h4, f4, k4⟩; dsimp only
  have HO4 := Lib.hid h4
  have HA4 := Lib.hid (HA3.out.trans ⟨f4, k4⟩)
  clear h4 f4 k4
  go_wp2_with fail
  refine (KD.out _).mono ?_
  rintro e w5 ⟨rfl, hb⟩; dsimp only
  have HO5 := Lib.hid (HO4.out.below hb)
  have HA5 := Lib.hid (HA4.out.below hb)
  clear hb KD HR
  obtain ⟨r, hr⟩ : ∃ r, m.r = r := ⟨_, rfl⟩
  rw [hr] at HR2 HD HWF
  clear hr
  cases ok with
  | false =>
    have HE := Lib.hid (show m.divM name by_ true = m3.end 5 from HD.out)
    clear HD
    go_wp2_with fail
    refine (end_any _ _ _ _ HO5.out 5).mono ?_
    rintro e w6 ⟨rfl, lv6, h6, f6, k6⟩; dsimp only
    have HF := Lib.hid (After.mk h6 (HA5.out.trans ⟨f6, k6⟩))
    clear h6 f6 k6
    go_wp2_with fail
    (first | go_end0 | (((try simp only [Exit.inBlock, Exit.then]); refine bodyPost_ret (results_none rfl _ _ _) rfl ?_)))
    rw [HE.out]
    exact ⟨rfl, HF.out⟩
  | true =>
    have w3 := Regs.put_wf HWF.out 0 HWL.out
    have w4 := Regs.put_wf w3 2 HWH.out
    have KP := Lib.hid (fun w => put_any r 0 ⟨q, false⟩ w)
    have HE := Lib.hid (show m.divM name by_ true = m3.setR ((r.put 0 ⟨q, false⟩).put 2 ⟨rest, false⟩) from HD.out)
    clear HD
    generalize r.put 0 ⟨q, false⟩ = r3 at w3 w4 KP HE
    have KQ := Lib.hid (fun w => put_any r3 2 ⟨rest, false⟩ w)
    generalize r3.put 2 ⟨rest, false⟩ = r4 at w4 KQ HE
    have W3 := Lib.hid w3
    have W4 := Lib.hid w4
    clear w3 w4
    have sc := HO5.out.sees.c; have sf := HO5.out.sees.f; have sr := HO5.out.sees.r; have ss := HO5.out.sees.s; have sl := HO5.out.sees.l
    rw [HR2.out] at sr
    go_wp2_with fail
    refine (KP.out _).mono ?_
    rintro e w6 ⟨rfl, hb⟩; dsimp only
    have HO6 := Lib.hid (HO5.out.below hb)
    have HA6 := Lib.hid (HA5.out.below hb)
    clear sc sf sr ss sl; clear hb
    have sc := HO6.out.sees.c; have sf := HO6.out.sees.f; have sr := HO6.out.sees.r; have ss := HO6.out.sees.s; have sl := HO6.out.sees.l
    go_upto_region 9 with fail
    have HO7 := Lib.hid (HO6.out.putR r3 W3.out)
    have HA7 := Lib.hid (HA6.out.putR r3)
    clear sc sf sr ss sl
    generalize putR w6 C.b r3 = w7 at HO7 HA7 ⊢
    have sc := HO7.out.sees.c; have sf := HO7.out.sees.f; have sr := HO7.out.sees.r; have ss := HO7.out.sees.s; have sl := HO7.out.sees.l
    replace sr : regsIn w7 C.b = some r3.val := sr
    go_wp2_with fail
    refine (KQ.out _).mono ?_
    rintro e w8 ⟨rfl, hb⟩; dsimp only
    have HO8 := Lib.hid (HO7.out.below hb)
    have HA8 := Lib.hid (HA7.out.below hb)
    clear sc sf sr ss sl; clear hb
    have sc := HO8.out.sees.c; have sf := HO8.out.sees.f; have sr := HO8.out.sees.r; have ss := HO8.out.sees.s; have sl := HO8.out.sees.l
    go_wp2_with fail
    (first | go_end0 | (((try simp only [Exit.inBlock, Exit.then]); refine bodyPost_ret (results_none rfl _ _ _) rfl ?_)))
    rw [HE.out]
    exact ⟨rfl, After.mk (HO8.out.putR _ W4.out) (HA8.out.putR _)⟩

set_option maxRecDepth 100000 in
set_option maxHeartbeats 3200000 in
theorem divi_false (w : World) (C : Phys) (lv : Value) (m : Mach) (h : Own w C lv m) (name by_ : Int) (hn : name = 88 ∨ name = 89) (b0 : 0 ≤ by_) (b1 : by_ ≤ 65535) :
    Calls Tryz.prog 188 #[.pointer (some ⟨C.b, 0, none⟩), .int .i64 name, .int .u16 by_, .bool false] w fun e w' => e = .returned (.tuple #[]) ∧ After C lv w (m.divM name by_ false) w' := by
  have v0 := h.wf.r.g0
  have x0 : 0 ≤ m.r.g0.v % 256 ∧ m.r.g0.v % 256 ≤ 65535 := by omega
  have y0 : 0 ≤ m.r.g0.v / 256 ∧ m.r.g0.v / 256 ≤ 65535 := by have := v0.1; have := v0.2; omega
  have KD := Lib.hid (fun w => div_any name (m.r.g0.v % 256) (m.r.g0.v / 256) by_ false w hn x0.1 x0.2 y0.1 y0.2 b0 b1)
  have hP := divV_wf name (m.r.g0.v % 256) (m.r.g0.v / 256) by_ false x0.1 x0.2 y0.1 y0.2 b0 b1
  have HD := Lib.hid (show m.divM name by_ false = if (divV name (m.r.g0.v % 256) (m.r.g0.v / 256) by_ false).2.2 then (m.plain m.r.g0).setR (m.r.put 0 ⟨(divV name (m.r.g0.v % 256) (m.r.g0.v / 256) by_ false).1 + 256 * (divV name (m.r.g0.v % 256) (m.r.g0.v / 256) by_ false).2.1, false⟩) else (m.plain m.r.g0).end 5 from rfl)
  generalize divV name (m.r.g0.v % 256) (m.r.g0.v / 256) by_ false = D at KD HD hP
  obtain ⟨q, rest, ok⟩ := D
  dsimp only at KD HD hP
  have q2 : q ≤ 255 := hP.1.2
  have r2 : rest ≤ 255 := hP.2.2
  have HWX := Lib.hid (show V.wf ⟨q + 256 * rest, false⟩ from ⟨by dsimp only; omega, by dsimp only; omega⟩)
  have eor : bits .or .u16 q (rest * 256) = q + 256 * rest := word_bits q rest hP.1.1 q2 hP.2.1 r2
  have e255 : andW m.r.g0.v 255 = m.r.g0.v % 256 := and255 _ v0.1 v0.2
  have rest0 := hP.2.1
  clear hP
  have HWF := Lib.hid h.wf.r
  have HO0 := Lib.hid h; have HA0 := Lib.hid (Acc.refl C lv w); have sc := HO0.out.sees.c; have sf := HO0.out.sees.f; have sr := HO0.out.sees.r; have ss := HO0.out.sees.s; have sl := HO0.out.sees.l; clear h
  go_enter Tryz.func188, Tryz.ntmps188
  go_wp2_with fail
  refine (get_any m.r 0 _).mono ?_
  rw [show m.r.get 0 = m.r.g0 from rfl]
  rintro e w1 ⟨rfl, hb⟩; dsimp only
  have HO1 := Lib.hid (HO0.out.below hb)
  have HA1 := Lib.hid (HA0.out.below hb)
  clear sc sf sr ss sl; clear hb
  go_wp2_with fail
  refine (plain_any _ _ _ _ HO1.out m.r.g0).mono ?_
  have HR2 := Lib.hid (plain_r m m.r.g0)
  generalize m.plain m.r.g0 = m3 at HD HR2
  rintro e w4 ⟨rfl, lv4, h4, f4, k4⟩; dsimp only
  have HO4 := Lib.hid h4
  have HA4 := Lib.hid (HA1.out.trans ⟨f4, k4⟩)
  clear h4 f4 k4
  go_wp2_with fail
  refine (KD.out _).mono ?_
  rintro e w5 ⟨rfl, hb⟩; dsimp only
  have HO5 := Lib.hid (HO4.out.below hb)
  have HA5 := Lib.hid (HA4.out.below hb)
  clear hb KD
  obtain ⟨r, hr⟩ : ∃ r, m.r = r := ⟨_, rfl⟩
  rw [hr] at HR2 HD HWF
  cases ok with
  | false =>
    have HE := Lib.hid (show m.divM name by_ false = m3.end 5 from HD.out)
    clear HD
    go_wp2_with fail
    refine (end_any _ _ _ _ HO5.out 5).mono ?_
    rintro e w6 ⟨rfl, lv6, h6, f6, k6⟩; dsimp only
    have HF := Lib.hid (After.mk h6 (HA5.out.trans ⟨f6, k6⟩))
    clear h6 f6 k6
    go_wp2_with fail
    (first | go_end0 | (((try simp only [Exit.inBlock, Exit.then]); refine bodyPost_ret (results_none rfl _ _ _) rfl ?_)))
    rw [HE.out]
    exact ⟨rfl, HF.out⟩
  | true =>
    have w4 := Regs.put_wf HWF.out 0 HWX.out
    have KQ := Lib.hid (fun w => put_any r 0 ⟨q + 256 * rest, false⟩ w)
    have HE := Lib.hid (show m.divM name by_ false = m3.setR (r.put 0 ⟨q + 256 * rest, false⟩) from HD.out)
    clear HD
    generalize r.put 0 ⟨q + 256 * rest, false⟩ = r4 at w4 KQ HE
    have W4 := Lib.hid w4
    clear w4
    have sc := HO5.out.sees.c; have sf := HO5.out.sees.f; have sr := HO5.out.sees.r; have ss := HO5.out.sees.s; have sl := HO5.out.sees.l
    rw [HR2.out] at sr
    go_wp2_with fail
    refine (KQ.out _).mono ?_
    rintro e w8 ⟨rfl, hb⟩; dsimp only
    have HO8 := Lib.hid (HO5.out.below hb)
    have HA8 := Lib.hid (HA5.out.below hb)
    clear sc sf sr ss sl; clear hb
    have sc := HO8.out.sees.c; have sf := HO8.out.sees.f; have sr := HO8.out.sees.r; have ss := HO8.out.sees.s; have sl := HO8.out.sees.l
    go_wp2_with fail
    (first | go_end0 | (((try simp only [Exit.inBlock, Exit.then]); refine bodyPost_ret (results_none rfl _ _ _) rfl ?_)))
    rw [HE.out]
    exact ⟨rfl, After.mk (HO8.out.putR _ W4.out) (HA8.out.putR _)⟩
theorem divi_any (w : World) (C : Phys) (lv : Value) (m : Mach) (h : Own w C lv m) (name by_ : Int) (wide : Bool) (hn : name = 88 ∨ name = 89) (b0 : 0 ≤ by_) (b1 : by_ ≤ 65535) :
    Calls Tryz.prog 188 #[.pointer (some ⟨C.b, 0, none⟩), .int .i64 name, .int .u16 by_, .bool wide] w fun e w' => e = .returned (.tuple #[]) ∧ After C lv w (m.divM name by_ wide) w' := by
  cases wide
  · exact divi_false w C lv m h name by_ hn b0 b1
  · exact divi_true w C lv m h name by_ hn b0 b1
end Go.Proofs.YtcglkefaopgjeaaGreatDoor

/- Package cpu: numbers, of products and divisions: walks. -/
namespace Go.Proofs.YtcglkefaopgjeaaGreatDoor
set_option linter.unusedSimpArgs false
set_option linter.unusedVariables false
open Go.RowKit

set_option maxRecDepth 100000 in
set_option maxHeartbeats 3200000 in
theorem numbers_86 (w : World) (C : Phys) (lv : Value) (m : Mach) (h : Own w C lv m) (T : TypeId) (hb : Box C lv w 0 basesC T) (i : Inst) (r : IRow) (t : V) (ht : t.wf) (hn : r.name = 86) (ha0 : 0 ≤ r.a) (ha1 : r.a ≤ 24) (hg : GetOkG T i r.a) :
    Calls Tryz.prog 131 #[.pointer (some ⟨C.b, 0, none⟩), i.val, r.val, t.val] w fun e w' => e = .returned (.tuple #[]) ∧ After C lv w (((m.getM i r.a).plain (m.getV i r.a t)).mulM 86 (m.getV i r.a t).v (wideB r.a)) w' := by
  obtain ⟨name, ra, rb, rm⟩ := r
  dsimp only at hn hg ha0 ha1
  subst hn
  have hs := st3 h i ⟨86, ra, rb, rm⟩ t
  have hvw := getV_wf h i ra ht
  dsimp only
  obtain ⟨v, hv⟩ : ∃ v, m.getV i ra t = v := ⟨_, rfl⟩
  obtain ⟨m1, hm1⟩ : ∃ m1, m.getM i ra = m1 := ⟨_, rfl⟩
  obtain ⟨m2, hm2⟩ : ∃ m2, m1.plain v = m2 := ⟨_, rfl⟩
  obtain ⟨m3, hm3⟩ : ∃ m3, m2.mulM 86 v.v (wideB ra) = m3 := ⟨_, rfl⟩
  rw [hv] at hvw
  rw [hm1, hv, hm2, hm3]
  have KW := Lib.hid (fun w => wide_any ra w ha0 ha1)
  have KA := Lib.hid (St3.callsG (lv := lv) (w0 := w) (i := i) (r := ⟨86, ra, rb, rm⟩) (t := t) hb (fun w lv h hb => hm1 ▸ hv ▸ hg w C lv m h hb t))
  have KP := Lib.hid (St3.calls (lv := lv) (w0 := w) (i := i) (r := ⟨86, ra, rb, rm⟩) (t := t) (fun w lv h => hm2 ▸ plain_any w C lv m1 h v))
  have KM := Lib.hid (St3.calls (lv := lv) (w0 := w) (i := i) (r := ⟨86, ra, rb, rm⟩) (t := t) (fun w lv h => hm3 ▸ mult_any w C lv m2 h 86 v.v (wideB ra) (by decide) hvw.1 hvw.2))
  generalize wideB ra = wd at KW KM
  clear h hb hg hv hm1 hm2 hm3 hvw ha0 ha1
  have xi := hs.ci
  have xr := hs.cr
  have xt := hs.ct
  have sc := hs.sees.c
  go_enter Tryz.func131, Tryz.ntmps131
  go_wp2_with fail
  refine (KW.out _).mono ?_
  rintro e w' ⟨rfl, rfl⟩; dsimp only
  go_upto_region 29 with fail
  generalize ((w.alloc (.cells (instC i) 30)).alloc (.cells (rowC ⟨86, ra, rb, rm⟩) 47)).alloc (.cells (valC t) 24) = W0 at *
  have S0 := Lib.hid hs.drew
  clear hs sc
  go_region_held3 (fun w' => (∀ j, w'.cell? ⟨w.heap.size, j, none⟩ = (instC i)[j]?) ∧ (∀ j, w'.cell? ⟨w.heap.size + 1, j, none⟩ = (rowC ⟨86, ra, rb, rm⟩)[j]?) ∧ (∀ j, w'.cell? ⟨w.heap.size + 1 + 1, j, none⟩ = (valC t)[j]?)) (go_keep) (first | (go_at_call 66; with_reducible refine (KA.out _ ?_).mono ?_; (focus (refine Hid.out ?_; assumption)); rintro e w1 ⟨rfl, hq⟩; have y1 := hq.ci; have y2 := hq.cr; have y3 := hq.ct; have S1 := Lib.hid hq; clear hq) | (go_at_call 115; with_reducible refine (KP.out _ ?_).mono ?_; (focus (refine Hid.out ?_; assumption)); rintro e w2 ⟨rfl, hq⟩; have y4 := hq.ci; have y5 := hq.cr; have y6 := hq.ct; have S2 := Lib.hid hq; clear hq) | (go_at_call 187; with_reducible refine (KM.out _ ?_).mono ?_; (focus (refine Hid.out ?_; assumption)); rintro e w3 ⟨rfl, hq⟩; have z1 := hq.ci; have z2 := hq.cr; have z3 := hq.ct; have S3 := Lib.hid hq; clear hq))
  all_goals
    go_wp2_with fail
    (first | go_end0 | (((try simp only [Exit.inBlock, Exit.then]); refine bodyPost_ret (results_none rfl _ _ _) rfl ?_)))
    exact ⟨rfl, S3.out.fin⟩
set_option maxRecDepth 100000 in
set_option maxHeartbeats 3200000 in
theorem numbers_87 (w : World) (C : Phys) (lv : Value) (m : Mach) (h : Own w C lv m) (T : TypeId) (hb : Box C lv w 0 basesC T) (i : Inst) (r : IRow) (t : V) (ht : t.wf) (hn : r.name = 87) (ha0 : 0 ≤ r.a) (ha1 : r.a ≤ 24) (hg : GetOkG T i r.a) :
    Calls Tryz.prog 131 #[.pointer (some ⟨C.b, 0, none⟩), i.val, r.val, t.val] w fun e w' => e = .returned (.tuple #[]) ∧ After C lv w (((m.getM i r.a).plain (m.getV i r.a t)).mulM 87 (m.getV i r.a t).v (wideB r.a)) w' := by
  obtain ⟨name, ra, rb, rm⟩ := r
  dsimp only at hn hg ha0 ha1
  subst hn
  have hs := st3 h i ⟨87, ra, rb, rm⟩ t
  have hvw := getV_wf h i ra ht
  dsimp only
  obtain ⟨v, hv⟩ : ∃ v, m.getV i ra t = v := ⟨_, rfl⟩
  obtain ⟨m1, hm1⟩ : ∃ m1, m.getM i ra = m1 := ⟨_, rfl⟩
  obtain ⟨m2, hm2⟩ : ∃ m2, m1.plain v = m2 := ⟨_, rfl⟩
  obtain ⟨m3, hm3⟩ : ∃ m3, m2.mulM 87 v.v (wideB ra) = m3 := ⟨_, rfl⟩
  rw [hv] at hvw
  rw [hm1, hv, hm2, hm3]
  have KW := Lib.hid (fun w => wide_any ra w ha0 ha1)
  have KA := Lib.hid (St3.callsG (lv := lv) (w0 := w) (i := i) (r := ⟨87, ra, rb, rm⟩) (t := t) hb (fun w lv h hb => hm1 ▸ hv ▸ hg w C lv m h hb t))
  have KP := Lib.hid (St3.calls (lv := lv) (w0 := w) (i := i) (r := ⟨87, ra, rb, rm⟩) (t := t) (fun w lv h => hm2 ▸ plain_any w C lv m1 h v))
  have KM := Lib.hid (St3.calls (lv := lv) (w0 := w) (i := i) (r := ⟨87, ra, rb, rm⟩) (t := t) (fun w lv h => hm3 ▸ mult_any w C lv m2 h 87 v.v (wideB ra) (by decide) hvw.1 hvw.2))
  generalize wideB ra = wd at KW KM
  clear h hb hg hv hm1 hm2 hm3 hvw ha0 ha1
  have xi := hs.ci
  have xr := hs.cr
  have xt := hs.ct
  have sc := hs.sees.c
  go_enter Tryz.func131, Tryz.ntmps131
  go_wp2_with fail
  refine (KW.out _).mono ?_
  rintro e w' ⟨rfl, rfl⟩; dsimp only
  go_upto_region 29 with fail
  generalize ((w.alloc (.cells (instC i) 30)).alloc (.cells (rowC ⟨87, ra, rb, rm⟩) 47)).alloc (.cells (valC t) 24) = W0 at *
  have S0 := Lib.hid hs.drew
  clear hs sc
  go_region_held3 (fun w' => (∀ j, w'.cell? ⟨w.heap.size, j, none⟩ = (instC i)[j]?) ∧ (∀ j, w'.cell? ⟨w.heap.size + 1, j, none⟩ = (rowC ⟨87, ra, rb, rm⟩)[j]?) ∧ (∀ j, w'.cell? ⟨w.heap.size + 1 + 1, j, none⟩ = (valC t)[j]?)) (go_keep) (first | (go_at_call 66; with_reducible refine (KA.out _ ?_).mono ?_; (focus (refine Hid.out ?_; assumption)); rintro e w1 ⟨rfl, hq⟩; have y1 := hq.ci; have y2 := hq.cr; have y3 := hq.ct; have S1 := Lib.hid hq; clear hq) | (go_at_call 115; with_reducible refine (KP.out _ ?_).mono ?_; (focus (refine Hid.out ?_; assumption)); rintro e w2 ⟨rfl, hq⟩; have y4 := hq.ci; have y5 := hq.cr; have y6 := hq.ct; have S2 := Lib.hid hq; clear hq) | (go_at_call 187; with_reducible refine (KM.out _ ?_).mono ?_; (focus (refine Hid.out ?_; assumption)); rintro e w3 ⟨rfl, hq⟩; have z1 := hq.ci; have z2 := hq.cr; have z3 := hq.ct; have S3 := Lib.hid hq; clear hq))
  all_goals
    go_wp2_with fail
    (first | go_end0 | (((try simp only [Exit.inBlock, Exit.then]); refine bodyPost_ret (results_none rfl _ _ _) rfl ?_)))
    exact ⟨rfl, S3.out.fin⟩
set_option maxRecDepth 100000 in
set_option maxHeartbeats 3200000 in
theorem numbers_88 (w : World) (C : Phys) (lv : Value) (m : Mach) (h : Own w C lv m) (T : TypeId) (hb : Box C lv w 0 basesC T) (i : Inst) (r : IRow) (t : V) (ht : t.wf) (hn : r.name = 88) (ha0 : 0 ≤ r.a) (ha1 : r.a ≤ 24) (hg : GetOkG T i r.a) :
    Calls Tryz.prog 131 #[.pointer (some ⟨C.b, 0, none⟩), i.val, r.val, t.val] w fun e w' => e = .returned (.tuple #[]) ∧ After C lv w (((m.getM i r.a).plain (m.getV i r.a t)).divM 88 (m.getV i r.a t).v (wideB r.a)) w' := by
  obtain ⟨name, ra, rb, rm⟩ := r
  dsimp only at hn hg ha0 ha1
  subst hn
  have hs := st3 h i ⟨88, ra, rb, rm⟩ t
  have hvw := getV_wf h i ra ht
  dsimp only
  obtain ⟨v, hv⟩ : ∃ v, m.getV i ra t = v := ⟨_, rfl⟩
  obtain ⟨m1, hm1⟩ : ∃ m1, m.getM i ra = m1 := ⟨_, rfl⟩
  obtain ⟨m2, hm2⟩ : ∃ m2, m1.plain v = m2 := ⟨_, rfl⟩
  obtain ⟨m3, hm3⟩ : ∃ m3, m2.divM 88 v.v (wideB ra) = m3 := ⟨_, rfl⟩
  rw [hv] at hvw
  rw [hm1, hv, hm2, hm3]
  have KW := Lib.hid (fun w => wide_any ra w ha0 ha1)
  have KA := Lib.hid (St3.callsG (lv := lv) (w0 := w) (i := i) (r := ⟨88, ra, rb, rm⟩) (t := t) hb (fun w lv h hb => hm1 ▸ hv ▸ hg w C lv m h hb t))
  have KP := Lib.hid (St3.calls (lv := lv) (w0 := w) (i := i) (r := ⟨88, ra, rb, rm⟩) (t := t) (fun w lv h => hm2 ▸ plain_any w C lv m1 h v))
  have KM := Lib.hid (St3.calls (lv := lv) (w0 := w) (i := i) (r := ⟨88, ra, rb, rm⟩) (t := t) (fun w lv h => hm3 ▸ divi_any w C lv m2 h 88 v.v (wideB ra) (by decide) hvw.1 hvw.2))
  generalize wideB ra = wd at KW KM
  clear h hb hg hv hm1 hm2 hm3 hvw ha0 ha1
  have xi := hs.ci
  have xr := hs.cr
  have xt := hs.ct
  have sc := hs.sees.c
  go_enter Tryz.func131, Tryz.ntmps131
  go_wp2_with fail
  refine (KW.out _).mono ?_
  rintro e w' ⟨rfl, rfl⟩; dsimp only
  go_upto_region 32 with fail
  generalize ((w.alloc (.cells (instC i) 30)).alloc (.cells (rowC ⟨88, ra, rb, rm⟩) 47)).alloc (.cells (valC t) 24) = W0 at *
  have S0 := Lib.hid hs.drew
  clear hs sc
  go_region_held3 (fun w' => (∀ j, w'.cell? ⟨w.heap.size, j, none⟩ = (instC i)[j]?) ∧ (∀ j, w'.cell? ⟨w.heap.size + 1, j, none⟩ = (rowC ⟨88, ra, rb, rm⟩)[j]?) ∧ (∀ j, w'.cell? ⟨w.heap.size + 1 + 1, j, none⟩ = (valC t)[j]?)) (go_keep) (first | (go_at_call 66; with_reducible refine (KA.out _ ?_).mono ?_; (focus (refine Hid.out ?_; assumption)); rintro e w1 ⟨rfl, hq⟩; have y1 := hq.ci; have y2 := hq.cr; have y3 := hq.ct; have S1 := Lib.hid hq; clear hq) | (go_at_call 115; with_reducible refine (KP.out _ ?_).mono ?_; (focus (refine Hid.out ?_; assumption)); rintro e w2 ⟨rfl, hq⟩; have y4 := hq.ci; have y5 := hq.cr; have y6 := hq.ct; have S2 := Lib.hid hq; clear hq) | (go_at_call 188; with_reducible refine (KM.out _ ?_).mono ?_; (focus (refine Hid.out ?_; assumption)); rintro e w3 ⟨rfl, hq⟩; have z1 := hq.ci; have z2 := hq.cr; have z3 := hq.ct; have S3 := Lib.hid hq; clear hq))
  all_goals
    go_wp2_with fail
    (first | go_end0 | (((try simp only [Exit.inBlock, Exit.then]); refine bodyPost_ret (results_none rfl _ _ _) rfl ?_)))
    exact ⟨rfl, S3.out.fin⟩
set_option maxRecDepth 100000 in
set_option maxHeartbeats 3200000 in
theorem numbers_89 (w : World) (C : Phys) (lv : Value) (m : Mach) (h : Own w C lv m) (T : TypeId) (hb : Box C lv w 0 basesC T) (i : Inst) (r : IRow) (t : V) (ht : t.wf) (hn : r.name = 89) (ha0 : 0 ≤ r.a) (ha1 : r.a ≤ 24) (hg : GetOkG T i r.a) :
    Calls Tryz.prog 131 #[.pointer (some ⟨C.b, 0, none⟩), i.val, r.val, t.val] w fun e w' => e = .returned (.tuple #[]) ∧ After C lv w (((m.getM i r.a).plain (m.getV i r.a t)).divM 89 (m.getV i r.a t).v (wideB r.a)) w' := by
  obtain ⟨name, ra, rb, rm⟩ := r
  dsimp only at hn hg ha0 ha1
  subst hn
  have hs := st3 h i ⟨89, ra, rb, rm⟩ t
  have hvw := getV_wf h i ra ht
  dsimp only
  obtain ⟨v, hv⟩ : ∃ v, m.getV i ra t = v := ⟨_, rfl⟩
  obtain ⟨m1, hm1⟩ : ∃ m1, m.getM i ra = m1 := ⟨_, rfl⟩
  obtain ⟨m2, hm2⟩ : ∃ m2, m1.plain v = m2 := ⟨_, rfl⟩
  obtain ⟨m3, hm3⟩ : ∃ m3, m2.divM 89 v.v (wideB ra) = m3 := ⟨_, rfl⟩
  rw [hv] at hvw
  rw [hm1, hv, hm2, hm3]
  have KW := Lib.hid (fun w => wide_any ra w ha0 ha1)
  have KA := Lib.hid (St3.callsG (lv := lv) (w0 := w) (i := i) (r := ⟨89, ra, rb, rm⟩) (t := t) hb (fun w lv h hb => hm1 ▸ hv ▸ hg w C lv m h hb t))
  have KP := Lib.hid (St3.calls (lv := lv) (w0 := w) (i := i) (r := ⟨89, ra, rb, rm⟩) (t := t) (fun w lv h => hm2 ▸ plain_any w C lv m1 h v))
  have KM := Lib.hid (St3.calls (lv := lv) (w0 := w) (i := i) (r := ⟨89, ra, rb, rm⟩) (t := t) (fun w lv h => hm3 ▸ divi_any w C lv m2 h 89 v.v (wideB ra) (by decide) hvw.1 hvw.2))
  generalize wideB ra = wd at KW KM
  clear h hb hg hv hm1 hm2 hm3 hvw ha0 ha1
  have xi := hs.ci
  have xr := hs.cr
  have xt := hs.ct
  have sc := hs.sees.c
  go_enter Tryz.func131, Tryz.ntmps131
  go_wp2_with fail
  refine (KW.out _).mono ?_
  rintro e w' ⟨rfl, rfl⟩; dsimp only
  go_upto_region 32 with fail
  generalize ((w.alloc (.cells (instC i) 30)).alloc (.cells (rowC ⟨89, ra, rb, rm⟩) 47)).alloc (.cells (valC t) 24) = W0 at *
  have S0 := Lib.hid hs.drew
  clear hs sc
  go_region_held3 (fun w' => (∀ j, w'.cell? ⟨w.heap.size, j, none⟩ = (instC i)[j]?) ∧ (∀ j, w'.cell? ⟨w.heap.size + 1, j, none⟩ = (rowC ⟨89, ra, rb, rm⟩)[j]?) ∧ (∀ j, w'.cell? ⟨w.heap.size + 1 + 1, j, none⟩ = (valC t)[j]?)) (go_keep) (first | (go_at_call 66; with_reducible refine (KA.out _ ?_).mono ?_; (focus (refine Hid.out ?_; assumption)); rintro e w1 ⟨rfl, hq⟩; have y1 := hq.ci; have y2 := hq.cr; have y3 := hq.ct; have S1 := Lib.hid hq; clear hq) | (go_at_call 115; with_reducible refine (KP.out _ ?_).mono ?_; (focus (refine Hid.out ?_; assumption)); rintro e w2 ⟨rfl, hq⟩; have y4 := hq.ci; have y5 := hq.cr; have y6 := hq.ct; have S2 := Lib.hid hq; clear hq) | (go_at_call 188; with_reducible refine (KM.out _ ?_).mono ?_; (focus (refine Hid.out ?_; assumption)); rintro e w3 ⟨rfl, hq⟩; have z1 := hq.ci; have z2 := hq.cr; have z3 := hq.ct; have S3 := Lib.hid hq; clear hq))
  all_goals
    go_wp2_with fail
    (first | go_end0 | (((try simp only [Exit.inBlock, Exit.then]); refine bodyPost_ret (results_none rfl _ _ _) rfl ?_)))
    exact ⟨rfl, S3.out.fin⟩
end Go.Proofs.YtcglkefaopgjeaaGreatDoor

/- Flags C and O behind a product: plain laws. -/
namespace Go.Proofs.YtcglkefaopgjeaaGreatDoor
set_option linter.unusedSimpArgs false
set_option linter.unusedVariables false
open Go.RowKit

theorem lowC : andW 1 4053 = 1 := by kernel_rfl
theorem lowO : andW 2048 4053 = 2048 := by kernel_rfl
theorem two_flags (r : Regs) (f0 : 0 ≤ r.f) (f1 : r.f ≤ 65535) (b : Bool) : andW ((r.withF 1 b).withF 2048 b).f 1 = ifI b 1 ∧ andW ((r.withF 1 b).withF 2048 b).f 2048 = ifI b 2048 := by
  unfold Regs.withF
  dsimp only
  rw [lowC, lowO]
  generalize r.f = f at f0 f1
  obtain ⟨n, rfl⟩ := Int.eq_ofNat_of_zero_le f0
  have hn : n < 65536 := by omega
  have e1 : andNotW (n : Int) 1 = ((n &&& 65534 : Nat) : Int) := u16_andNot_nat n 1 hn (by decide)
  have l1 : n &&& 65534 < 65536 := Nat.lt_of_le_of_lt Nat.and_le_right (by decide)
  rw [e1]
  cases b
  · have e2 : andNotW ((n &&& 65534 : Nat) : Int) 2048 = (((n &&& 65534) &&& 63487 : Nat) : Int) := u16_andNot_nat _ 2048 l1 (by decide)
    have l2 : (n &&& 65534) &&& 63487 < 65536 := Nat.lt_of_le_of_lt Nat.and_le_right (by decide)
    have e3 : andW (((n &&& 65534) &&& 63487 : Nat) : Int) 1 = ((((n &&& 65534) &&& 63487) &&& 1 : Nat) : Int) := u16_and_nat _ 1 l2 (by decide)
    have e4 : andW (((n &&& 65534) &&& 63487 : Nat) : Int) 2048 = ((((n &&& 65534) &&& 63487) &&& 2048 : Nat) : Int) := u16_and_nat _ 2048 l2 (by decide)
    simp only [Bool.false_eq_true, if_false]
    rw [e2, e3, e4, Nat.and_assoc, Nat.and_assoc, Nat.and_assoc, show 65534 &&& (63487 &&& 1) = 0 from rfl, show 63487 &&& 2048 = 0 from rfl]
    simp [ifI]
  · have e2 : orW ((n &&& 65534 : Nat) : Int) 1 = (((n &&& 65534) ||| 1 : Nat) : Int) := u16_or_nat _ 1 l1 (by decide)
    have l2 : (n &&& 65534) ||| 1 < 65536 := Nat.or_lt_two_pow (n := 16) l1 (by decide)
    have e3 : andNotW (((n &&& 65534) ||| 1 : Nat) : Int) 2048 = ((((n &&& 65534) ||| 1) &&& 63487 : Nat) : Int) := u16_andNot_nat _ 2048 l2 (by decide)
    have l3 : ((n &&& 65534) ||| 1) &&& 63487 < 65536 := Nat.lt_of_le_of_lt Nat.and_le_right (by decide)
    have e4 : orW ((((n &&& 65534) ||| 1) &&& 63487 : Nat) : Int) 2048 = (((((n &&& 65534) ||| 1) &&& 63487) ||| 2048 : Nat) : Int) := u16_or_nat _ 2048 l3 (by decide)
    have l4 : (((n &&& 65534) ||| 1) &&& 63487) ||| 2048 < 65536 := Nat.or_lt_two_pow (n := 16) l3 (by decide)
    have e5 : andW (((((n &&& 65534) ||| 1) &&& 63487) ||| 2048 : Nat) : Int) 1 = ((((((n &&& 65534) ||| 1) &&& 63487) ||| 2048) &&& 1 : Nat) : Int) := u16_and_nat _ 1 l4 (by decide)
    have e6 : andW (((((n &&& 65534) ||| 1) &&& 63487) ||| 2048 : Nat) : Int) 2048 = ((((((n &&& 65534) ||| 1) &&& 63487) ||| 2048) &&& 2048 : Nat) : Int) := u16_and_nat _ 2048 l4 (by decide)
    simp only [if_true]
    rw [e2, e3, e4, e5, e6]
    simp only [Nat.and_or_distrib_right, Nat.and_assoc]
    rw [show 65534 &&& (63487 &&& 1) = 0 from rfl, show 65534 &&& (63487 &&& 2048) = 0 from rfl]
    simp [ifI]
end Go.Proofs.YtcglkefaopgjeaaGreatDoor

/- hansomlaw16: only: walk. -/
namespace Go.Proofs.YtcglkefaopgjeaaGreatDoor
set_option linter.unusedSimpArgs false
set_option linter.unusedVariables false
open Go.RowKit

/-- What only has while it looks. -/
abbrev zI : Inst := ⟨false, 0, 0, 0, 0, 0, 0, 0, 0, 0⟩
structure LB (w wr : World) (x : Inst) : Prop where
  b : Below w.heap.size w wr
  x : Row wr w.heap.size x.cells 30
  i : Row wr (w.heap.size + 1) zI.cells 30
  r : Row wr (w.heap.size + 1 + 1) #[.int .i64 0, .int .i64 0, .int .i64 0, .bool false] 47
theorem LB.on {w wr wy : World} {x : Inst} (h : LB w wr x) (hb : Below wr.heap.size wr wy) : LB w wy x := ⟨h.b.trans (hb.mono h.b.size), Below.row hb h.x h.x.lt, Below.row hb h.i h.i.lt, Below.row hb h.r h.r.lt⟩
theorem LB.alloc {w wr : World} {x : Inst} (h : LB w wr x) (o : Obj) : LB w (wr.alloc o) x := h.on ((Below.refl _ _).alloc (Nat.le_refl _) _)
theorem LB.drew {w wr : World} {x : Inst} (h : LB w wr x) : LB w wr.drew x := h.on (Below.refl _ _).drew
theorem LB.setNew {w wr : World} {x : Inst} (h : LB w wr x) {p : Addr} (hp : w.heap.size + 1 + 1 < p.block) (v : Value) : LB w (wr.setCell p v) x :=
  ⟨h.b.setCell (by omega) v, h.x.setCell_other _ _ (by omega), h.i.setCell_other _ _ (by omega), h.r.setCell_other _ _ (by omega)⟩
theorem lb_new (w : World) (x : Inst) : LB w (((w.alloc (.cells x.cells 30)).alloc (.cells zI.cells 30)).alloc (.cells #[.int .i64 0, .int .i64 0, .int .i64 0, .bool false] 47)) x :=
  ⟨(((Below.refl w.heap.size w).alloc (Nat.le_refl _) _).alloc (by simp) _).alloc (by simp <;> omega) _, ((Row.new w _ _).alloc _).alloc _, (Row.new' (by simp)).alloc _, Row.new' (by simp)⟩
theorem results_only (tmps : Array Value) (w : World) (a b : Nat) (i : Inst) (r : IRow) (h6 : tmps.getD 6 undef = .pointer (some ⟨a, 0, none⟩)) (h7 : tmps.getD 7 undef = .pointer (some ⟨b, 0, none⟩)) (h8 : tmps.getD 8 undef = .bool true)
    (hi : Row w a i.cells 30) (hr : Row w b (rowC r) 47) : (results (Tryz.f20) tmps).run Tryz.prog w = .ok (.tuple #[i.val, r.val, .bool true]) w := by
  have g6 : tmps[6]?.getD undef = .pointer (some ⟨a, 0, none⟩) := by simpa using h6
  have g7 : tmps[7]?.getD undef = .pointer (some ⟨b, 0, none⟩) := by simpa using h7
  have g8 : tmps[8]?.getD undef = .bool true := by simpa using h8
  have li := run_loadVar_row (P := Tryz.prog) w a 30 30 i.cells (0, 0) _ hi Tryz.underlying30 rfl (by kernel_rfl)
  have lr := run_loadVar_row (P := Tryz.prog) w b 47 47 (rowC r) (0, 0) _ hr Tryz.underlying47 rfl (by kernel_rfl)
  simp [results, Tryz.results20, g6, g7, g8, asAddr, li, lr]
def manyOf (op : Int) : Nat := if grpOf op then 8 else 1
abbrev rowG (o : Option IRow) : IRow := o.getD ⟨0, 0, 0, false⟩
theorem rowV_G (o : Option IRow) : rowV o = .tuple #[(rowG o).val, .bool o.isSome] := by cases o <;> rfl
/-- What only finds. -/
def Found (lo hi : Int) (w : World) (e : Ending) (w' : World) : Prop :=
  ∃ i : Inst, ∃ r : IRow, i.good ∧ instRow i.op i.reg = some r ∧ lo ≤ r.name ∧ r.name ≤ hi ∧ e = .returned (.tuple #[i.val, r.val, .bool true]) ∧ Below w.heap.size w w'

theorem LB.set10 {w wr : World} {x : Inst} (h : LB w wr x) {B : Nat} (hB : w.heap.size + 1 + 1 < B) (j : Inst) :
    LB w ((((((((((wr.setCell ⟨B, 0, none⟩ (.bool j.lock)).setCell ⟨B, 1, none⟩ (.int .i64 j.rep)).setCell ⟨B, 2, none⟩ (.int .i64 j.seg)).setCell ⟨B, 3, none⟩ (.int .u8 j.op)).setCell ⟨B, 4, none⟩ (.int .i64 j.mod)).setCell ⟨B, 5, none⟩ (.int .i64 j.reg)).setCell ⟨B, 6, none⟩ (.int .i64 j.rm)).setCell ⟨B, 7, none⟩ (.int .u16 j.disp)).setCell ⟨B, 8, none⟩ (.int .u16 j.imm)).setCell ⟨B, 9, none⟩ (.int .u16 j.sel)) x :=
  (((((((((h.setNew (p := ⟨B, 0, none⟩) hB _).setNew (p := ⟨B, 1, none⟩) hB _).setNew (p := ⟨B, 2, none⟩) hB _).setNew (p := ⟨B, 3, none⟩) hB _).setNew (p := ⟨B, 4, none⟩) hB _).setNew (p := ⟨B, 5, none⟩) hB _).setNew (p := ⟨B, 6, none⟩) hB _).setNew (p := ⟨B, 7, none⟩) hB _).setNew (p := ⟨B, 8, none⟩) hB _).setNew (p := ⟨B, 9, none⟩) hB _
theorem row4 {w : World} {b : Nat} {r0 : IRow} (r : IRow) (h : Row w b (rowC r0) 47) :
    Row ((((w.setCell ⟨b, 0, none⟩ (.int .i64 r.name)).setCell ⟨b, 1, none⟩ (.int .i64 r.a)).setCell ⟨b, 2, none⟩ (.int .i64 r.b)).setCell ⟨b, 3, none⟩ (.bool r.mod)) b (rowC r) 47 := by
  simpa using (((h.setCell 0 (.int .i64 r.name)).setCell 1 (.int .i64 r.a)).setCell 2 (.int .i64 r.b)).setCell 3 (.bool r.mod)
theorem only_next {x : Inst} {lo hi : Int} {K N k n : Nat} (hnk : k = K → n ≤ N) (hok : tryOk x lo hi K N = true) (hF : tryOk x lo hi k n = false) : k = K → n + 1 ≤ N := by
  intro e
  have h1 := hnk e
  rcases Nat.lt_or_ge n N with h | h
  · omega
  · have h2 : n = N := by omega
    rw [e, h2, hok] at hF
    cases hF

set_option maxRecDepth 100000 in
set_option maxHeartbeats 6400000 in
theorem only_any (x : Inst) (hx : x.kinds) (lo hi : Int) (hlo : 1 ≤ lo) (K N : Nat) (hK : K < 256) (hN : N < manyOf (tryOp x K)) (hok : tryOk x lo hi K N = true) (w : World) :
    Calls Tryz.prog 20 #[x.val, .int .i64 lo, .int .i64 hi] w (Found lo hi w) := by
  have HL0 := Lib.hid (lb_new w x)
  have HX := Lib.hid hx
  have HOK := Lib.hid hok
  have HN := Lib.hid hN
  clear hx hok hN
  go_enter Tryz.func20, Tryz.ntmps20
  go_wp2_with fail
  go_loopw [9] (fun s9 wr => ∃ k : Nat, k ≤ K ∧ s9 = .int .i64 k ∧ LB w wr x) (fun s9 _ => 256 - (intOf s9).toNat)
  case atStart => exact ⟨0, by omega, rfl, HL0.out⟩
  case round =>
    obtain ⟨k, hk, rfl, hl⟩ := hrel
    have HL := Lib.hid hl
    have xx := hl.x.cell
    have lx := hl.x.lt
    have c1 : ((k : Nat) : Int) < 256 := by omega
    obtain ⟨o, ho⟩ : ∃ o : Nat, tryOp x k = o := ⟨(tryOp x k).toNat, by unfold tryOp; omega⟩
    have ho1 : o < 256 := by unfold tryOp at ho; omega
    have HO := Lib.hid ho
    clear hl
    go_wp2_with fail
    rw [show (x.op + (k : Int)) % 256 = (o : Int) from HO.out]
    refine (grouped_any4 o ho1 _).mono ?_
    have HM := Lib.hid (show manyOf (o : Int) = if grpOf o then 8 else 1 from rfl)
    generalize grpOf o = gb at HM ⊢
    rintro e w' ⟨rfl, rfl⟩; dsimp only
    clear xx lx
    obtain ⟨wo, hwo⟩ : ∃ wo : World, wo = wr := ⟨_, rfl⟩
    subst hwo
    cases gb with
    | false =>
      have HK := Lib.hid (show k = K → N < 1 from fun e => by have := HN.out; rw [← e, HO.out, HM.out] at this; exact this)
      clear HM
      go_wp2_with fail
      go_loopw [12] (fun s12 wr => ∃ n : Nat, n ≤ 1 ∧ (k = K → n ≤ N) ∧ s12 = .int .i64 n ∧ LB w wr x) (fun s12 _ => 1 - (intOf s12).toNat)
      case atStart => exact ⟨0, by omega, fun _ => by omega, rfl, HL.out⟩
      case round =>
        obtain ⟨n, hn, hnk, rfl, hl⟩ := hrel
        have HL2 := Lib.hid hl
        have xx := hl.x.cell
        have lx := hl.x.lt
        have lr := hl.r.lt
        clear hl
        by_cases hlt : n < 1
        · have c2 : ((n : Nat) : Int) < 1 := by omega
          have a7 : bits .and .i64 x.reg 7 = x.reg % 8 := i64_and7 _
          have b7 : bits .and .i64 (x.reg % 8 + n) 7 = tryReg x n := i64_and7 _
          have hJ : Inst.kinds ⟨x.lock, x.rep, x.seg, tryOp x k, x.mod, tryReg x n, x.rm, x.disp, x.imm, x.sel⟩ := ⟨by rw [HO.out]; dsimp only; omega, HX.out.disp, HX.out.imm, HX.out.sel⟩
          have KN := Lib.hid (fun w => near_any5 _ hJ w)
          have HG := Lib.hid (near_good _ hJ)
          have HT := Lib.hid (show tryOk x lo hi k n = (decide (lo ≤ (rowG (instRow (tryI x k n).op (tryI x k n).reg)).name) && decide ((rowG (instRow (tryI x k n).op (tryI x k n).reg)).name ≤ hi) && ((tryI x k n).op == tryOp x k)) from rfl)
          have e0 : nearI ⟨x.lock, x.rep, x.seg, tryOp x k, x.mod, tryReg x n, x.rm, x.disp, x.imm, x.sel⟩ = tryI x k n := rfl
          rw [e0] at KN HG
          rw [HO.out] at KN HT
          clear e0 hJ
          obtain ⟨g, hg⟩ : ∃ g, tryReg x n = g := ⟨_, rfl⟩
          rw [hg] at b7 KN
          generalize tryI x k n = j at KN HG HT
          have KR := Lib.hid (fun w => row_any5 j w HG.out.wf.op.1 HG.out.wf.op.2 HG.out.wf.reg.1 HG.out.wf.reg.2)
          have HRS := Lib.hid (show ∀ hlo2 : 1 ≤ (rowG (instRow j.op j.reg)).name, instRow j.op j.reg = some (rowG (instRow j.op j.reg)) from fun h1 => by cases hh : instRow j.op j.reg with
            | none => rw [hh] at h1; exact absurd h1 (by decide)
            | some r => rfl)
          simp only [rowV_G] at KR
          generalize (instRow j.op j.reg).isSome = sb at KR
          obtain ⟨ir, hir⟩ : ∃ ir, instRow j.op j.reg = ir := ⟨_, rfl⟩
          rw [hir] at KR HT HRS
          have HIR := Lib.hid hir
          clear hir
          obtain ⟨R, hR⟩ : ∃ R, rowG ir = R := ⟨_, rfl⟩
          rw [hR] at KR HT HRS
          clear hR
          obtain ⟨rn, ra, rb, rm⟩ := R
          dsimp only at HT HRS
          have HB := Lib.hid lr
          have n1 : ¬ wr.heap.size = w.heap.size := by omega
          have n2 : ¬ wr.heap.size = w.heap.size + 1 := by omega
          have n3 : ¬ wr.heap.size = w.heap.size + 1 + 1 := by omega
          go_upto_region 11 with fail
          go_region
          all_goals
            go_upto_region 12 with fail
            have hl3 := (HL2.out.alloc (.cells #[.bool x.lock, .int .i64 x.rep, .int .i64 x.seg, .int .u8 o, .int .i64 x.mod, .int .i64 g, .int .i64 x.rm, .int .u16 x.disp, .int .u16 x.imm, .int .u16 x.sel] 30)).drew
            have hr3 := (Row.new wr (Inst.cells ⟨x.lock, x.rep, x.seg, o, x.mod, g, x.rm, x.disp, x.imm, x.sel⟩) 30).drew
            clear xx lx lr n1 n2 n3
            generalize hB9 : wr.heap.size = B at HB hr3 ⊢
            generalize (wr.alloc (.cells #[.bool x.lock, .int .i64 x.rep, .int .i64 x.seg, .int .u8 o, .int .i64 x.mod, .int .i64 g, .int .i64 x.rm, .int .u16 x.disp, .int .u16 x.imm, .int .u16 x.sel] 30)).drew = w3 at hl3 hr3 ⊢
            have HL3 := Lib.hid hl3
            have HR3 := Lib.hid hr3
            have x3 := hr3.cell
            clear hl3 hr3 hB9
            go_wp2_with fail
            refine (KN.out _).mono ?_
            rintro e w4 ⟨rfl, hb⟩; dsimp only
            have HL4 := Lib.hid (HL3.out.on hb)
            have HR4 := Lib.hid (Below.row hb HR3.out HR3.out.lt)
            clear x3 hb
            have x4 := HR4.out.cell
            have f4 := HR4.out.frozen
            have l4 := HR4.out.lt
            go_upto_region 13 with fail
            have HL5 := Lib.hid (HL4.out.set10 HB.out j)
            have HR5 := Lib.hid (row_inst j HR4.out)
            clear x4 f4 l4
            generalize ((((((((((w4.setCell ⟨B, 0, none⟩ (.bool j.lock)).setCell ⟨B, 1, none⟩ (.int .i64 j.rep)).setCell ⟨B, 2, none⟩ (.int .i64 j.seg)).setCell ⟨B, 3, none⟩ (.int .u8 j.op)).setCell ⟨B, 4, none⟩ (.int .i64 j.mod)).setCell ⟨B, 5, none⟩ (.int .i64 j.reg)).setCell ⟨B, 6, none⟩ (.int .i64 j.rm)).setCell ⟨B, 7, none⟩ (.int .u16 j.disp)).setCell ⟨B, 8, none⟩ (.int .u16 j.imm)).setCell ⟨B, 9, none⟩ (.int .u16 j.sel)) = w5 at HL5 HR5 ⊢
            have x5 := HR5.out.cell
            go_wp2_with fail
            refine (KR.out _).mono ?_
            rintro e w6 ⟨rfl, hb⟩; dsimp only
            have HL6 := Lib.hid ((HL5.out.on hb).alloc (.cells #[.int .i64 rn, .int .i64 ra, .int .i64 rb, .bool rm] 47))
            have HR6 := Lib.hid ((Below.row hb HR5.out HR5.out.lt).alloc (.cells #[.int .i64 rn, .int .i64 ra, .int .i64 rb, .bool rm] 47))
            have HS6 := Lib.hid (Row.new w6 #[.int .i64 rn, .int .i64 ra, .int .i64 rb, .bool rm] 47)
            have HB7 := Lib.hid (HL5.out.on hb).r.lt
            clear x5 hb
            go_upto_region 14 with fail
            generalize hw7 : w6.alloc (.cells #[.int .i64 rn, .int .i64 ra, .int .i64 rb, .bool rm] 47) = w7 at HL6 HR6 HS6 ⊢
            generalize w6.heap.size = B7 at HS6 HB7 ⊢
            clear hw7
            have x6 := HR6.out.cell
            have y6 := HS6.out.cell
            have ly := HS6.out.lt
            have lx := HR6.out.lt
            by_cases t1 : lo ≤ rn
            · by_cases t2 : rn ≤ hi
              · by_cases t3 : j.op = o
                · have t3b : ((o : Int) == j.op) = true := by simp [t3]
                  have T1 := Lib.hid t1
                  have T2 := Lib.hid t2
                  clear t3
                  have ci6 := HL6.out.i.cell
                  have cr6 := HL6.out.r.cell
                  have i6 := HL6.out.i.frozen
                  have j6 := HL6.out.r.frozen
                  have i7 := HL6.out.i.lt
                  have j7 := HL6.out.r.lt
                  have p1 : ¬ B = w.heap.size + 1 := by have := HB.out; omega
                  have p2 : ¬ w.heap.size + 1 = B := by have := HB.out; omega
                  have p3 : ¬ B = w.heap.size + 1 + 1 := by have := HB.out; omega
                  have p4 : ¬ w.heap.size + 1 + 1 = B := by have := HB.out; omega
                  have p5 : ¬ B7 = w.heap.size + 1 := by have := HB7.out; omega
                  have p6 : ¬ w.heap.size + 1 = B7 := by have := HB7.out; omega
                  have p7 : ¬ B7 = w.heap.size + 1 + 1 := by have := HB7.out; omega
                  have p8 : ¬ w.heap.size + 1 + 1 = B7 := by have := HB7.out; omega
                  go_upto_region 15 with fail
                  go_region
                  all_goals
                    go_wp2_with fail
                    refine bodyPost_ret (results_only _ _ _ _ j ⟨rn, ra, rb, rm⟩ rfl rfl rfl ?_ ?_) rfl ?_
                    · refine Row.drew ?_
                      repeat (refine Row.setCell_other ?_ _ _ (by dsimp only; omega))
                      refine row_inst (c := zI) j ?_
                      repeat (refine Row.setCell_other ?_ _ _ (by dsimp only; omega))
                      exact HL6.out.i
                    · refine Row.drew ?_
                      repeat (refine Row.setCell_other ?_ _ _ (by dsimp only; omega))
                      refine row4 (r0 := ⟨0, 0, 0, false⟩) ⟨rn, ra, rb, rm⟩ ?_
                      repeat (refine Row.setCell_other ?_ _ _ (by dsimp only; omega))
                      exact HL6.out.r
                    · refine ⟨j, ⟨rn, ra, rb, rm⟩, HG.out, by rw [HIR.out]; exact HRS.out (by have := T1.out; omega), T1.out, T2.out, rfl, ?_⟩
                      refine Below.drew ?_
                      repeat (with_reducible refine Below.setCell ?_ (by dsimp only; omega) _)
                      exact HL6.out.b
                · have hF : tryOk x lo hi k n = false := by rw [HT.out]; simp [t3]
                  have HC := Lib.hid (only_next hnk HOK.out hF)
                  have t3b : ((o : Int) == j.op) = false := by simp; exact fun e => t3 e.symm
                  clear HT hF t3
                  go_wp2_with fail
                  exact ⟨⟨n + 1, by omega, HC.out, by go_num, HL6.out⟩, by simp [intOf]; omega⟩
              · have hF : tryOk x lo hi k n = false := by rw [HT.out]; simp [t2]
                have HC := Lib.hid (only_next hnk HOK.out hF)
                clear HT hF
                go_wp2_with fail
                exact ⟨⟨n + 1, by omega, HC.out, by go_num, HL6.out⟩, by simp [intOf]; omega⟩
            · have hF : tryOk x lo hi k n = false := by rw [HT.out]; simp [t1]
              have HC := Lib.hid (only_next hnk HOK.out hF)
              clear HT hF
              go_wp2_with fail
              exact ⟨⟨n + 1, by omega, HC.out, by go_num, HL6.out⟩, by simp [intOf]; omega⟩
        · have c2 : ¬ ((n : Nat) : Int) < 1 := by omega
          have hk2 : k + 1 ≤ K := by
            rcases Nat.lt_or_ge k K with h | h
            · omega
            · have e : k = K := by omega
              have := hnk e
              have := HK.out e
              omega
          go_wp2_with fail
          exact ⟨⟨k + 1, hk2, by go_num, HL2.out⟩, by simp [intOf]; omega⟩
    | true =>
      have HK := Lib.hid (show k = K → N < 8 from fun e => by have := HN.out; rw [← e, HO.out, HM.out] at this; exact this)
      clear HM
      go_wp2_with fail
      go_loopw [12] (fun s12 wr => ∃ n : Nat, n ≤ 8 ∧ (k = K → n ≤ N) ∧ s12 = .int .i64 n ∧ LB w wr x) (fun s12 _ => 8 - (intOf s12).toNat)
      case atStart => exact ⟨0, by omega, fun _ => by omega, rfl, HL.out⟩
      case round =>
        obtain ⟨n, hn, hnk, rfl, hl⟩ := hrel
        have HL2 := Lib.hid hl
        have xx := hl.x.cell
        have lx := hl.x.lt
        have lr := hl.r.lt
        clear hl
        by_cases hlt : n < 8
        · have c2 : ((n : Nat) : Int) < 8 := by omega
          have a7 : bits .and .i64 x.reg 7 = x.reg % 8 := i64_and7 _
          have b7 : bits .and .i64 (x.reg % 8 + n) 7 = tryReg x n := i64_and7 _
          have hJ : Inst.kinds ⟨x.lock, x.rep, x.seg, tryOp x k, x.mod, tryReg x n, x.rm, x.disp, x.imm, x.sel⟩ := ⟨by rw [HO.out]; dsimp only; omega, HX.out.disp, HX.out.imm, HX.out.sel⟩
          have KN := Lib.hid (fun w => near_any5 _ hJ w)
          have HG := Lib.hid (near_good _ hJ)
          have HT := Lib.hid (show tryOk x lo hi k n = (decide (lo ≤ (rowG (instRow (tryI x k n).op (tryI x k n).reg)).name) && decide ((rowG (instRow (tryI x k n).op (tryI x k n).reg)).name ≤ hi) && ((tryI x k n).op == tryOp x k)) from rfl)
          have e0 : nearI ⟨x.lock, x.rep, x.seg, tryOp x k, x.mod, tryReg x n, x.rm, x.disp, x.imm, x.sel⟩ = tryI x k n := rfl
          rw [e0] at KN HG
          rw [HO.out] at KN HT
          clear e0 hJ
          obtain ⟨g, hg⟩ : ∃ g, tryReg x n = g := ⟨_, rfl⟩
          rw [hg] at b7 KN
          generalize tryI x k n = j at KN HG HT
          have KR := Lib.hid (fun w => row_any5 j w HG.out.wf.op.1 HG.out.wf.op.2 HG.out.wf.reg.1 HG.out.wf.reg.2)
          have HRS := Lib.hid (show ∀ hlo2 : 1 ≤ (rowG (instRow j.op j.reg)).name, instRow j.op j.reg = some (rowG (instRow j.op j.reg)) from fun h1 => by cases hh : instRow j.op j.reg with
            | none => rw [hh] at h1; exact absurd h1 (by decide)
            | some r => rfl)
          simp only [rowV_G] at KR
          generalize (instRow j.op j.reg).isSome = sb at KR
          obtain ⟨ir, hir⟩ : ∃ ir, instRow j.op j.reg = ir := ⟨_, rfl⟩
          rw [hir] at KR HT HRS
          have HIR := Lib.hid hir
          clear hir
          obtain ⟨R, hR⟩ : ∃ R, rowG ir = R := ⟨_, rfl⟩
          rw [hR] at KR HT HRS
          clear hR
          obtain ⟨rn, ra, rb, rm⟩ := R
          dsimp only at HT HRS
          have HB := Lib.hid lr
          have n1 : ¬ wr.heap.size = w.heap.size := by omega
          have n2 : ¬ wr.heap.size = w.heap.size + 1 := by omega
          have n3 : ¬ wr.heap.size = w.heap.size + 1 + 1 := by omega
          go_upto_region 11 with fail
          go_region
          all_goals
            go_upto_region 12 with fail
            have hl3 := (HL2.out.alloc (.cells #[.bool x.lock, .int .i64 x.rep, .int .i64 x.seg, .int .u8 o, .int .i64 x.mod, .int .i64 g, .int .i64 x.rm, .int .u16 x.disp, .int .u16 x.imm, .int .u16 x.sel] 30)).drew
            have hr3 := (Row.new wr (Inst.cells ⟨x.lock, x.rep, x.seg, o, x.mod, g, x.rm, x.disp, x.imm, x.sel⟩) 30).drew
            clear xx lx lr n1 n2 n3
            generalize hB9 : wr.heap.size = B at HB hr3 ⊢
            generalize (wr.alloc (.cells #[.bool x.lock, .int .i64 x.rep, .int .i64 x.seg, .int .u8 o, .int .i64 x.mod, .int .i64 g, .int .i64 x.rm, .int .u16 x.disp, .int .u16 x.imm, .int .u16 x.sel] 30)).drew = w3 at hl3 hr3 ⊢
            have HL3 := Lib.hid hl3
            have HR3 := Lib.hid hr3
            have x3 := hr3.cell
            clear hl3 hr3 hB9
            go_wp2_with fail
            refine (KN.out _).mono ?_
            rintro e w4 ⟨rfl, hb⟩; dsimp only
            have HL4 := Lib.hid (HL3.out.on hb)
            have HR4 := Lib.hid (Below.row hb HR3.out HR3.out.lt)
            clear x3 hb
            have x4 := HR4.out.cell
            have f4 := HR4.out.frozen
            have l4 := HR4.out.lt
            go_upto_region 13 with fail
            have HL5 := Lib.hid (HL4.out.set10 HB.out j)
            have HR5 := Lib.hid (row_inst j HR4.out)
            clear x4 f4 l4
            generalize ((((((((((w4.setCell ⟨B, 0, none⟩ (.bool j.lock)).setCell ⟨B, 1, none⟩ (.int .i64 j.rep)).setCell ⟨B, 2, none⟩ (.int .i64 j.seg)).setCell ⟨B, 3, none⟩ (.int .u8 j.op)).setCell ⟨B, 4, none⟩ (.int .i64 j.mod)).setCell ⟨B, 5, none⟩ (.int .i64 j.reg)).setCell ⟨B, 6, none⟩ (.int .i64 j.rm)).setCell ⟨B, 7, none⟩ (.int .u16 j.disp)).setCell ⟨B, 8, none⟩ (.int .u16 j.imm)).setCell ⟨B, 9, none⟩ (.int .u16 j.sel)) = w5 at HL5 HR5 ⊢
            have x5 := HR5.out.cell
            go_wp2_with fail
            refine (KR.out _).mono ?_
            rintro e w6 ⟨rfl, hb⟩; dsimp only
            have HL6 := Lib.hid ((HL5.out.on hb).alloc (.cells #[.int .i64 rn, .int .i64 ra, .int .i64 rb, .bool rm] 47))
            have HR6 := Lib.hid ((Below.row hb HR5.out HR5.out.lt).alloc (.cells #[.int .i64 rn, .int .i64 ra, .int .i64 rb, .bool rm] 47))
            have HS6 := Lib.hid (Row.new w6 #[.int .i64 rn, .int .i64 ra, .int .i64 rb, .bool rm] 47)
            have HB7 := Lib.hid (HL5.out.on hb).r.lt
            clear x5 hb
            go_upto_region 14 with fail
            generalize hw7 : w6.alloc (.cells #[.int .i64 rn, .int .i64 ra, .int .i64 rb, .bool rm] 47) = w7 at HL6 HR6 HS6 ⊢
            generalize w6.heap.size = B7 at HS6 HB7 ⊢
            clear hw7
            have x6 := HR6.out.cell
            have y6 := HS6.out.cell
            have ly := HS6.out.lt
            have lx := HR6.out.lt
            by_cases t1 : lo ≤ rn
            · by_cases t2 : rn ≤ hi
              · by_cases t3 : j.op = o
                · have t3b : ((o : Int) == j.op) = true := by simp [t3]
                  have T1 := Lib.hid t1
                  have T2 := Lib.hid t2
                  clear t3
                  have ci6 := HL6.out.i.cell
                  have cr6 := HL6.out.r.cell
                  have i6 := HL6.out.i.frozen
                  have j6 := HL6.out.r.frozen
                  have i7 := HL6.out.i.lt
                  have j7 := HL6.out.r.lt
                  have p1 : ¬ B = w.heap.size + 1 := by have := HB.out; omega
                  have p2 : ¬ w.heap.size + 1 = B := by have := HB.out; omega
                  have p3 : ¬ B = w.heap.size + 1 + 1 := by have := HB.out; omega
                  have p4 : ¬ w.heap.size + 1 + 1 = B := by have := HB.out; omega
                  have p5 : ¬ B7 = w.heap.size + 1 := by have := HB7.out; omega
                  have p6 : ¬ w.heap.size + 1 = B7 := by have := HB7.out; omega
                  have p7 : ¬ B7 = w.heap.size + 1 + 1 := by have := HB7.out; omega
                  have p8 : ¬ w.heap.size + 1 + 1 = B7 := by have := HB7.out; omega
                  go_upto_region 15 with fail
                  go_region
                  all_goals
                    go_wp2_with fail
                    refine bodyPost_ret (results_only _ _ _ _ j ⟨rn, ra, rb, rm⟩ rfl rfl rfl ?_ ?_) rfl ?_
                    · refine Row.drew ?_
                      repeat (refine Row.setCell_other ?_ _ _ (by dsimp only; omega))
                      refine row_inst (c := zI) j ?_
                      repeat (refine Row.setCell_other ?_ _ _ (by dsimp only; omega))
                      exact HL6.out.i
                    · refine Row.drew ?_
                      repeat (refine Row.setCell_other ?_ _ _ (by dsimp only; omega))
                      refine row4 (r0 := ⟨0, 0, 0, false⟩) ⟨rn, ra, rb, rm⟩ ?_
                      repeat (refine Row.setCell_other ?_ _ _ (by dsimp only; omega))
                      exact HL6.out.r
                    · refine ⟨j, ⟨rn, ra, rb, rm⟩, HG.out, by rw [HIR.out]; exact HRS.out (by have := T1.out; omega), T1.out, T2.out, rfl, ?_⟩
                      refine Below.drew ?_
                      repeat (with_reducible refine Below.setCell ?_ (by dsimp only; omega) _)
                      exact HL6.out.b
                · have hF : tryOk x lo hi k n = false := by rw [HT.out]; simp [t3]
                  have HC := Lib.hid (only_next hnk HOK.out hF)
                  have t3b : ((o : Int) == j.op) = false := by simp; exact fun e => t3 e.symm
                  clear HT hF t3
                  go_wp2_with fail
                  exact ⟨⟨n + 1, by omega, HC.out, by go_num, HL6.out⟩, by simp [intOf]; omega⟩
              · have hF : tryOk x lo hi k n = false := by rw [HT.out]; simp [t2]
                have HC := Lib.hid (only_next hnk HOK.out hF)
                clear HT hF
                go_wp2_with fail
                exact ⟨⟨n + 1, by omega, HC.out, by go_num, HL6.out⟩, by simp [intOf]; omega⟩
            · have hF : tryOk x lo hi k n = false := by rw [HT.out]; simp [t1]
              have HC := Lib.hid (only_next hnk HOK.out hF)
              clear HT hF
              go_wp2_with fail
              exact ⟨⟨n + 1, by omega, HC.out, by go_num, HL6.out⟩, by simp [intOf]; omega⟩
        · have c2 : ¬ ((n : Nat) : Int) < 8 := by omega
          have hk2 : k + 1 ≤ K := by
            rcases Nat.lt_or_ge k K with h | h
            · omega
            · have e : k = K := by omega
              have := hnk e
              have := HK.out e
              omega
          go_wp2_with fail
          exact ⟨⟨k + 1, hk2, by go_num, HL2.out⟩, by simp [intOf]; omega⟩
end Go.Proofs.YtcglkefaopgjeaaGreatDoor

/- The law CpuFetch. -/
namespace Go.Proofs.YtcglkefaopgjeaaGreatDoor
set_option linter.unusedSimpArgs false
set_option linter.unusedVariables false
open Go.RowKit

/-- An instruction equals itself. -/
theorem eq_I (i : Inst) (w : World) : (Op.equalIn 10000 30 i.val i.val).run Tryz.prog w = .ok true w := by
  have hS : Tryz.prog.underlying 30 = some (.struct (Tryz.prog.fieldsOf 30)) := by kernel_rfl
  rw [show (10000 : Nat) = 9999 + 1 from rfl, run_equalIn_agg w 9999 30 _ _ hS (by kernel_rfl)]
  simp only [Program.fieldsOf, Tryz.underlying30]
  go_simp
/-- What Put comes to. -/
def PutSays : Prop := ∀ (i : Inst), i.good → ∀ w : World, Calls Tryz.prog 15 #[i.val] w fun e w' => ∃ g cap : Nat, e = .returned (.slice (some ⟨g, 0, none⟩) (putL i).length cap) ∧ Below w.heap.size w w' ∧ w.heap.size ≤ g ∧ g < w'.heap.size ∧ ∀ k, k < (putL i).length → w'.cell? ⟨g, k, none⟩ = some (.int .u8 ((putL i).getD k 0))
theorem putL_wf (i : Inst) (hi : i.good) (k : Nat) : 0 ≤ (putL i).getD k 0 ∧ (putL i).getD k 0 ≤ 255 := by
  rw [List.getD_eq_getElem?_getD]
  rcases Nat.lt_or_ge k (putL i).length with h | h
  · rw [List.getElem?_eq_getElem h]
    exact putL_byte i hi _ (List.getElem_mem h)
  · rw [List.getElem?_eq_none h]
    exact ⟨by decide, by decide⟩

set_option maxRecDepth 100000 in
set_option maxHeartbeats 6400000 in
theorem cpuFetch_any (KP : PutSays) (r : Regs) (hr : r.wf) (x : Inst) (hx : x.kinds) (w : World) : Calls Tryz.prog 3 #[r.val, x.val] w fun e w' => e = .returned (.bool true) ∧ Below w.heap.size w w' := by
  have KN := Lib.hid (fun w => near_any5 x hx w)
  have hg := near_good x hx
  generalize nearI x = j at KN hg
  have HG := Lib.hid hg
  have KPJ := Lib.hid (KP j hg)
  have HW := Lib.hid (putL_wf j hg)
  have hlen := putL_le j
  have hpos := putL_pos j
  obtain ⟨L, hL⟩ : ∃ l, putL j = l := ⟨_, rfl⟩
  have HT := Lib.hid (fun (bs : Nat → Int) (h : Reads bs 0 L) => (hL ▸ take_put bs j hg.wf hg.may hg.rep.1 hg.rep.2 (hL ▸ h) : takeF bs = some (j, L.length)))
  rw [hL] at KPJ HW hlen hpos
  clear hg hL KP
  have hrow0 := (Row.new w r.cells 28).alloc (.cells x.cells 30)
  have hb0 := ((Below.refl w.heap.size w).alloc (Nat.le_refl _) (.cells r.cells 28)).alloc (by simp) (.cells x.cells 30)
  have HB0 := Lib.hid hb0
  have HR0 := Lib.hid hrow0
  have HX0 := Lib.hid (Row.new' (w := w.alloc (.cells r.cells 28)) (n := w.heap.size + 1) (cs := x.cells) (t := 30) (by simp))
  clear hb0 hrow0
  have xx := HX0.out.cell
  go_enter Tryz.func3, Tryz.ntmps3
  go_wp2_with fail
  refine (KN.out _).mono ?_
  rintro e w1 ⟨rfl, hb⟩; dsimp only
  have HB1 := Lib.hid ((HB0.out.trans (hb.mono HB0.out.size)).alloc (Nat.le_trans HB0.out.size hb.size) (.cells j.cells 30))
  have HR1 := Lib.hid ((Below.row hb HR0.out HR0.out.lt).alloc (.cells j.cells 30))
  have HJ1 := Lib.hid (Row.new w1 j.cells 30)
  clear hb xx
  go_upto_region 2 with fail
  generalize w1.alloc (.cells j.cells 30) = W1 at HB1 HR1 HJ1 ⊢
  have xj := HJ1.out.cell
  go_wp2_with fail
  refine (KPJ.out _).mono ?_
  rintro e w2 ⟨g, cap, rfl, hb, hg0, hg1, hcells⟩; dsimp only
  have HB2 := Lib.hid (HB1.out.trans (hb.mono HB1.out.size))
  have HR2 := Lib.hid (Below.row hb HR1.out HR1.out.lt)
  have HJ2 := Lib.hid (Below.row hb HJ1.out HJ1.out.lt)
  have KB := Lib.hid (begin_any w2 r hr g cap L hg1 hcells HW.out (by omega))
  clear hb xj hg0 hg1 hcells
  obtain ⟨xc, xf, xr, xs, xl⟩ := HR2.out.sees
  go_wp2_with fail
  refine KB.out.mono ?_
  rintro e w3 ⟨C, lv, rfl, ho, hb2, hn⟩; dsimp only
  have HO1 := Lib.hid ho
  have HB3 := Lib.hid (HB2.out.trans (hb2.mono HB2.out.size))
  have HR3 := Lib.hid (Below.row hb2 HR2.out HR2.out.lt)
  have HJ3 := Lib.hid (Below.row hb2 HJ2.out HJ2.out.lt)
  clear ho hb2 hn xc xf xr xs xl KB
  have hcode : Reads (begun r L).code 0 L := fun k hk => by
    rw [Nat.zero_add]
    exact code_begun r hr.ip.1 hr.ip.2 L k (by omega)
  have KF := Lib.hid (fetch_ok w3 C lv (begun r L) HO1.out j L.length (HT.out _ hcode) (plainB_sane (sane_begun r L) _ _))
  clear hcode
  go_wp2_with fail
  refine KF.out.mono ?_
  rintro e w4 ⟨rfl, hb⟩; dsimp only
  have HO4 := Lib.hid (HO1.out.below hb)
  have HB4 := Lib.hid (HB3.out.trans (hb.mono HB3.out.size))
  have HR4 := Lib.hid (Below.row hb HR3.out HR3.out.lt)
  have HJ4 := Lib.hid (Below.row hb HJ3.out HJ3.out.lt)
  clear hb KF
  go_upto_region 5 with fail
  have HO5 := Lib.hid (((HO4.out.alloc (.cells j.cells 30)).alloc (.cells #[.int .u16 j.imm, .bool false] 24)).alloc (.cells #[.int .u16 j.sel, .bool false] 24))
  have HB5 := Lib.hid (((HB4.out.alloc HB4.out.size (.cells j.cells 30)).alloc (by rw [World.size_alloc]; exact Nat.le_succ_of_le HB4.out.size) (.cells #[.int .u16 j.imm, .bool false] 24)).alloc (by rw [World.size_alloc, World.size_alloc]; exact Nat.le_succ_of_le (Nat.le_succ_of_le HB4.out.size)) (.cells #[.int .u16 j.sel, .bool false] 24))
  have HR5 := Lib.hid (((HR4.out.alloc (.cells j.cells 30)).alloc (.cells #[.int .u16 j.imm, .bool false] 24)).alloc (.cells #[.int .u16 j.sel, .bool false] 24))
  have HJ5 := Lib.hid (((HJ4.out.alloc (.cells j.cells 30)).alloc (.cells #[.int .u16 j.imm, .bool false] 24)).alloc (.cells #[.int .u16 j.sel, .bool false] 24))
  have HY5 := Lib.hid (((Row.new w4 j.cells 30).alloc (.cells #[.int .u16 j.imm, .bool false] 24)).alloc (.cells #[.int .u16 j.sel, .bool false] 24))
  have HT5 := Lib.hid ((Row.new' (w := w4.alloc (.cells j.cells 30)) (n := w4.heap.size + 1) (cs := #[.int .u16 j.imm, .bool false]) (t := 24) (by simp)).alloc (.cells #[.int .u16 j.sel, .bool false] 24))
  have HS5 := Lib.hid (Row.new' (w := (w4.alloc (.cells j.cells 30)).alloc (.cells #[.int .u16 j.imm, .bool false] 24)) (n := w4.heap.size + 1 + 1) (cs := #[.int .u16 j.sel, .bool false]) (t := 24) (by simp))
  generalize ((w4.alloc (.cells j.cells 30)).alloc (.cells #[.int .u16 j.imm, .bool false] 24)).alloc (.cells #[.int .u16 j.sel, .bool false] 24) = w5 at HO5 HB5 HR5 HJ5 HY5 HT5 HS5 ⊢
  have g1 : w5.cell? ⟨C.b, 24, none⟩ = some (.int .u16 r.ip) := (HO5.out.row.cell 24).trans (mcell24 C _)
  have g2 : w5.cell? ⟨w.heap.size, 24, none⟩ = some (.int .u16 r.ip) := HR5.out.cell 24
  refine range_of (w5) ?_; intro S inst ω hin hout
  have r1 := range_cell hin g1
  have r2 := range_cell hin g2
  have r3 := range_row hin HJ5.out
  have r4 := range_row hin HY5.out
  have r5 := range_row hin HT5.out
  have r6 := range_row hin HS5.out
  have k1 := range_call hin hout awake_any
  have k2 := range_calls hin hout (fun w hw => (state_any w C lv _ (HO5.out.below hw)).mono (by rintro e w' ⟨rfl, rfl⟩; exact ⟨rfl, Below.refl _ _⟩))
  rw [show (begun r L).state = 0 from rfl] at k2
  have eqi := eq_I j
  have eqv := eq_V 9998
  clear g1 g2
  refine wp_region_range_lit ω (by kernel_rfl) (by kernel_rfl) (hout _ (Below.refl _ _).drew) ?_
  repeat (go_big_quiet_step (first | (with_reducible exact k1 _) | (with_reducible exact k2 _)))
  refine wpQuiet_nil ?_; intro _ hw'; obtain ⟨nq, rfl⟩ := hw'
  go_wp2_with fail
  go_ret
  exact ⟨rfl, HB5.out.trans ((hin nq).mono HB5.out.size)⟩
end Go.Proofs.YtcglkefaopgjeaaGreatDoor

/- What the law CpuProducts wants of rows, machines and numbers: plain laws. -/
namespace Go.Proofs.YtcglkefaopgjeaaGreatDoor
set_option linter.unusedSimpArgs false
set_option linter.unusedVariables false
open Go.RowKit

def prodOk (r : IRow) : Bool := !(decide (86 ≤ r.name) && decide (r.name ≤ 89)) || (r.a == 1 || r.a == 2)
theorem prod_ok : ∀ op : Fin 256, ∀ reg : Fin 8, (match isaOf (op.val : Nat) (reg.val : Nat) with | none => true | some r => prodOk r) = true := by decide +kernel
theorem prod_row {op reg : Int} {r : IRow} (h0 : 0 ≤ op) (h1 : op ≤ 255) (g0 : 0 ≤ reg) (g1 : reg ≤ 7) (h : instRow op reg = some r) (n0 : 86 ≤ r.name) (n1 : r.name ≤ 89) : r.a = 1 ∨ r.a = 2 := by
  obtain ⟨a, rfl⟩ := Int.eq_ofNat_of_zero_le h0
  obtain ⟨b, rfl⟩ := Int.eq_ofNat_of_zero_le g0
  have := prod_ok ⟨a, by omega⟩ ⟨b, by omega⟩
  rw [show ((⟨a, by omega⟩ : Fin 256).val) = a from rfl, show ((⟨b, by omega⟩ : Fin 8).val) = b from rfl, (instRow_some h).2] at this
  simp only [prodOk, n0, n1, decide_true, Bool.and_true, Bool.not_true, Bool.false_or, Bool.or_eq_true, beq_iff_eq] at this
  exact this
/-- There is an instruction of these names. -/
theorem prod_there (x : Inst) (hx : x.kinds) : ∃ K N : Nat, K < 256 ∧ N < manyOf (tryOp x K) ∧ tryOk x 86 89 K N = true := by
  refine ⟨(((246 : Nat) - x.op : Int) % 256).toNat, (((4 : Nat) - x.reg % 8 : Int) % 8).toNat, by omega, ?_, ?_⟩
  · rw [tryOp_at x hx.op.1 hx.op.2 246 (by decide), show manyOf ((246 : Nat) : Int) = 8 by decide]
    omega
  · exact try_row x 86 89 _ _ 246 4 (tryOp_at x hx.op.1 hx.op.2 246 (by decide)) (tryReg_at x 4 (by decide)).symm ⟨86, 1, 0, true⟩ (by decide) (fun h => by cases h) (by decide) (by decide) (by decide) (by decide) (by decide)
/-- A byte that is read is a byte. -/
theorem getV_byte {w : World} {C : Phys} {lv : Value} {m : Mach} (h : Own w C lv m) (i : Inst) (t : V) : 0 ≤ (m.getV i 1 t).v ∧ (m.getV i 1 t).v ≤ 255 := by
  unfold Mach.getV
  rw [if_pos rfl]
  split
  · exact Regs.byte_wf h.wf.r _
  · exact h.mem.wf _
theorem reps_prod (n : Int) (h0 : 86 ≤ n) (h1 : n ≤ 89) : repsOf n = 0 ∧ isFlow n = false := by
  have hc : n = 86 ∨ n = 87 ∨ n = 88 ∨ n = 89 := by omega
  rcases hc with rfl | rfl | rfl | rfl <;> exact ⟨by decide, by decide⟩
end Go.Proofs.YtcglkefaopgjeaaGreatDoor

/- The step of a product or a division in what begin makes; what the law carries: plain laws and one step. -/
namespace Go.Proofs.YtcglkefaopgjeaaGreatDoor
set_option linter.unusedSimpArgs false
set_option linter.unusedVariables false
open Go.RowKit

/-- The machine behind a product or a division. -/
def prodM (m : Mach) (name v : Int) (wide : Bool) : Mach := if name = 86 ∨ name = 87 then m.mulM name v wide else m.divM name v wide
/-- So many bytes at IP are the instruction. -/
theorem take_begun (r : Regs) (hr : r.wf) (i : Inst) (hg : i.good) (L : List Int) (hL : putL i = L) : takeF (begun r L).code = some (i, L.length) := by
  have hlen := putL_le i
  have h : Reads (begun r L).code 0 L := fun k hk => by
    rw [Nat.zero_add]
    exact code_begun r hr.ip.1 hr.ip.2 L k (by rw [← hL] at hk; omega)
  rw [← hL] at h ⊢
  exact take_put _ i hg.wf hg.may hg.rep.1 hg.rep.2 h
theorem prod_step (r : Regs) (hr : r.wf) (i : Inst) (hg : i.good) (L : List Int) (hL : putL i = L) (row : IRow) (hrow : instRow i.op i.reg = some row) (n0 : 86 ≤ row.name) (n1 : row.name ≤ 89) (C : Phys) (T : TypeId) (w : World) (lv : Value)
    (h : Own w C lv (begun r L)) (hb : Box C lv w 0 basesC T) :
    Calls Tryz.prog 25 #[.pointer (some ⟨C.b, 0, none⟩)] w fun e w' => e = .returned (.bool true) ∧ After C lv w (prodM ((begun r L).on L.length) row.name ((begun r L).getV i row.a ⟨i.imm, false⟩).v (wideB row.a)) w' := by
  have hlen := putL_le i
  have hra := prod_row hg.wf.op.1 hg.wf.op.2 hg.wf.reg.1 hg.wf.reg.2 hrow n0 n1
  have hrp := reps_prod row.name n0 n1
  have E := (easy_begun r L).on L.length
  refine step_anyG w C lv _ _ h T hb rfl i L.length (take_begun r hr i hg L hL) (plainB_sane (sane_begun r L) _ _) (by rw [← hL]; omega) row hrow hg.wf hrp.1 hrp.2 ?_
  intro w lv h hb
  refine do_numbersG w C lv _ _ h T hb i row ⟨i.imm, false⟩ (by omega) ?_
  intro w lv h hb
  have hq : ∀ (p : Mach), p = ((begun r L).on L.length) → (p.getM i row.a).plain (p.getV i row.a ⟨i.imm, false⟩) = p := by
    intro p hp
    rw [hp, E.getM, plain_of (E.getT i row.a (by omega) (by omega) _ rfl)]
  have hc : row.name = 86 ∨ row.name = 87 ∨ row.name = 88 ∨ row.name = 89 := by omega
  have hok := getOk_all T i hg.wf row.a (by omega)
  rcases hc with e | e | e | e
  · have := numbers_86 w C lv _ h T hb i row ⟨i.imm, false⟩ ⟨hg.wf.imm.1, hg.wf.imm.2⟩ e (by omega) (by omega) hok
    rw [hq _ rfl] at this
    rw [show prodM ((begun r L).on L.length) row.name ((begun r L).getV i row.a ⟨i.imm, false⟩).v (wideB row.a) = ((begun r L).on L.length).mulM 86 ((begun r L).getV i row.a ⟨i.imm, false⟩).v (wideB row.a) by rw [prodM, if_pos (by omega), e]]
    exact this
  · have := numbers_87 w C lv _ h T hb i row ⟨i.imm, false⟩ ⟨hg.wf.imm.1, hg.wf.imm.2⟩ e (by omega) (by omega) hok
    rw [hq _ rfl] at this
    rw [show prodM ((begun r L).on L.length) row.name ((begun r L).getV i row.a ⟨i.imm, false⟩).v (wideB row.a) = ((begun r L).on L.length).mulM 87 ((begun r L).getV i row.a ⟨i.imm, false⟩).v (wideB row.a) by rw [prodM, if_pos (by omega), e]]
    exact this
  · have := numbers_88 w C lv _ h T hb i row ⟨i.imm, false⟩ ⟨hg.wf.imm.1, hg.wf.imm.2⟩ e (by omega) (by omega) hok
    rw [hq _ rfl] at this
    rw [show prodM ((begun r L).on L.length) row.name ((begun r L).getV i row.a ⟨i.imm, false⟩).v (wideB row.a) = ((begun r L).on L.length).divM 88 ((begun r L).getV i row.a ⟨i.imm, false⟩).v (wideB row.a) by rw [prodM, if_neg (by omega), e]]
    exact this
  · have := numbers_89 w C lv _ h T hb i row ⟨i.imm, false⟩ ⟨hg.wf.imm.1, hg.wf.imm.2⟩ e (by omega) (by omega) hok
    rw [hq _ rfl] at this
    rw [show prodM ((begun r L).on L.length) row.name ((begun r L).getV i row.a ⟨i.imm, false⟩).v (wideB row.a) = ((begun r L).on L.length).divM 89 ((begun r L).getV i row.a ⟨i.imm, false⟩).v (wideB row.a) by rw [prodM, if_neg (by omega), e]]
    exact this

theorem mul_true (r : Regs) (hr : r.wf) (L : List Int) (n : Nat) (v : Int) (v0 : 0 ≤ v) (v1 : v ≤ 65535) :
    (prodM ((begun r L).on n) 86 v true).state = 0 ∧ (prodM ((begun r L).on n) 86 v true).ev = [] ∧ (prodM ((begun r L).on n) 86 v true).r.g0.v = r.g0.v * v % 65536 ∧ (prodM ((begun r L).on n) 86 v true).r.g2.v = r.g0.v * v / 65536 ∧
    andW (prodM ((begun r L).on n) 86 v true).r.f 1 = ifI (r.g0.v * v / 65536 != 0) 1 ∧ andW (prodM ((begun r L).on n) 86 v true).r.f 2048 = ifI (r.g0.v * v / 65536 != 0) 2048 := by
  have hf := two_flags (((begun r L).on n).r.mulR (r.g0.v * v % 65536) (r.g0.v * v / 65536) true) (show 0 ≤ andW r.f 4053 from and_lo _ _) (show andW r.f 4053 ≤ 65535 from and_hi _ _) (r.g0.v * v / 65536 != 0)
  exact ⟨rfl, rfl, rfl, rfl, hf.1, hf.2⟩
theorem mul_false (r : Regs) (hr : r.wf) (L : List Int) (n : Nat) (v : Int) (v0 : 0 ≤ v) (v1 : v ≤ 255) :
    (prodM ((begun r L).on n) 86 v false).state = 0 ∧ (prodM ((begun r L).on n) 86 v false).ev = [] ∧ (prodM ((begun r L).on n) 86 v false).r.g0.v = r.g0.v % 256 * v % 256 + 256 * (r.g0.v % 256 * v / 256 % 256) ∧
    andW (prodM ((begun r L).on n) 86 v false).r.f 1 = ifI (r.g0.v % 256 * v / 256 % 256 != 0) 1 ∧ andW (prodM ((begun r L).on n) 86 v false).r.f 2048 = ifI (r.g0.v % 256 * v / 256 % 256 != 0) 2048 := by
  have e : v % 256 = v := by omega
  have hf := two_flags (((begun r L).on n).r.mulR (r.g0.v % 256 * (v % 256) % 256) (r.g0.v % 256 * (v % 256) / 256 % 256) false) (show 0 ≤ andW r.f 4053 from and_lo _ _) (show andW r.f 4053 ≤ 65535 from and_hi _ _) (r.g0.v % 256 * (v % 256) / 256 % 256 != 0)
  have key : (prodM ((begun r L).on n) 86 v false).state = 0 ∧ (prodM ((begun r L).on n) 86 v false).ev = [] ∧ (prodM ((begun r L).on n) 86 v false).r.g0.v = r.g0.v % 256 * (v % 256) % 256 + 256 * (r.g0.v % 256 * (v % 256) / 256 % 256) ∧
      andW (prodM ((begun r L).on n) 86 v false).r.f 1 = ifI (r.g0.v % 256 * (v % 256) / 256 % 256 != 0) 1 ∧ andW (prodM ((begun r L).on n) 86 v false).r.f 2048 = ifI (r.g0.v % 256 * (v % 256) / 256 % 256 != 0) 2048 := ⟨rfl, rfl, rfl, hf.1, hf.2⟩
  rwa [e] at key
theorem div_no (r : Regs) (L : List Int) (n : Nat) (name v : Int) (wd : Bool) (hn : name = 88 ∨ name = 89) (q : Int) (s : Int) (hd : divV name (if wd then r.g0.v else r.g0.v % 256) (if wd then r.g2.v else r.g0.v / 256) v wd = (q, s, false)) :
    (prodM ((begun r L).on n) name v wd).state = 1 ∧ (prodM ((begun r L).on n) name v wd).ev = [⟨5, 0, 0, 0, 0, 0, 0⟩] ∧ (prodM ((begun r L).on n) name v wd).r = ((begun r L).on n).r := by
  have e : prodM ((begun r L).on n) name v wd = ((begun r L).on n).end 5 := by
    rw [prodM, if_neg (by omega)]
    have h1 : (if wd then (((begun r L).on n).plain ((begun r L).on n).r.g0).plain ((begun r L).on n).r.g2 else ((begun r L).on n).plain ((begun r L).on n).r.g0) = (begun r L).on n := by cases wd <;> rfl
    have hd2 : divV name (if wd then ((begun r L).on n).r.g0.v else ((begun r L).on n).r.g0.v % 256) (if wd then ((begun r L).on n).r.g2.v else ((begun r L).on n).r.g0.v / 256) v wd = (q, s, false) := hd
    unfold Mach.divM
    dsimp only
    rw [hd2, h1]
    dsimp only
    rw [if_neg (by decide)]
  rw [e]
  exact ⟨rfl, rfl, rfl⟩
theorem div_yes (r : Regs) (L : List Int) (n : Nat) (name v : Int) (wd : Bool) (hn : name = 88 ∨ name = 89) (q : Int) (s : Int) (hd : divV name (if wd then r.g0.v else r.g0.v % 256) (if wd then r.g2.v else r.g0.v / 256) v wd = (q, s, true)) :
    (prodM ((begun r L).on n) name v wd).state = 0 ∧ (prodM ((begun r L).on n) name v wd).ev = [] ∧ (prodM ((begun r L).on n) name v wd).r = ((begun r L).on n).r.mulR q s wd := by
  have e : prodM ((begun r L).on n) name v wd = ((begun r L).on n).setR (((begun r L).on n).r.mulR q s wd) := by
    rw [prodM, if_neg (by omega)]
    have h1 : (if wd then (((begun r L).on n).plain ((begun r L).on n).r.g0).plain ((begun r L).on n).r.g2 else ((begun r L).on n).plain ((begun r L).on n).r.g0) = (begun r L).on n := by cases wd <;> rfl
    have hd2 : divV name (if wd then ((begun r L).on n).r.g0.v else ((begun r L).on n).r.g0.v % 256) (if wd then ((begun r L).on n).r.g2.v else ((begun r L).on n).r.g0.v / 256) v wd = (q, s, true) := hd
    unfold Mach.divM
    dsimp only
    rw [hd2, h1]
    dsimp only
    rw [if_pos rfl]
  rw [e]
  exact ⟨rfl, rfl, rfl⟩

def numN (r : Regs) (wd : Bool) : Int := if wd then r.g0.v + 65536 * r.g2.v else r.g0.v
theorem div88_V (r : Regs) (hr : r.wf) (v : Int) (wd : Bool) (v0 : 0 ≤ v) (v1 : v ≤ limW wd) :
    divV 88 (if wd then r.g0.v else r.g0.v % 256) (if wd then r.g2.v else r.g0.v / 256) v wd = if v = 0 then (0, 0, false) else if limW wd < numN r wd / v then (0, 0, false) else (numN r wd / v, numN r wd % v, true) := by
  have a0 : 0 ≤ r.g0.v := hr.g0.1
  have a1 : r.g0.v ≤ 65535 := hr.g0.2
  have e1 : cutW v wd = v := by
    unfold limW at v1
    unfold cutW
    cases wd <;> simp at v1 ⊢ <;> omega
  have e2 : cutW 65535 wd = limW wd := by cases wd <;> decide
  have e3 : divN (if wd then r.g0.v else r.g0.v % 256) (if wd then r.g2.v else r.g0.v / 256) wd = numN r wd := by
    unfold divN numN
    cases wd
    · simp only [Bool.false_eq_true, if_false]; omega
    · simp only [if_true]; omega
  unfold divV
  rw [e1, e2, e3, if_neg (show ¬ (88 : Int) = 89 by decide)]
theorem div88_no (r : Regs) (hr : r.wf) (L : List Int) (n : Nat) (v : Int) (wd : Bool) (v0 : 0 ≤ v) (v1 : v ≤ limW wd) (h : v = 0 ∨ limW wd < numN r wd / v) :
    (prodM ((begun r L).on n) 88 v wd).state = 1 ∧ (prodM ((begun r L).on n) 88 v wd).ev = [⟨5, 0, 0, 0, 0, 0, 0⟩] ∧ (prodM ((begun r L).on n) 88 v wd).r = ((begun r L).on n).r := by
  refine div_no r L n 88 v wd (Or.inl rfl) 0 0 ?_
  rw [div88_V r hr v wd v0 v1]
  by_cases e : v = 0
  · rw [if_pos e]
  · rw [if_neg e, if_pos (h.resolve_left e)]
theorem div88_yes (r : Regs) (hr : r.wf) (L : List Int) (n : Nat) (v : Int) (wd : Bool) (v0 : 0 ≤ v) (v1 : v ≤ limW wd) (h : v ≠ 0) (h2 : ¬ limW wd < numN r wd / v) :
    (prodM ((begun r L).on n) 88 v wd).state = 0 ∧ (prodM ((begun r L).on n) 88 v wd).ev = [] ∧ (prodM ((begun r L).on n) 88 v wd).r = ((begun r L).on n).r.mulR (numN r wd / v) (numN r wd % v) wd := by
  refine div_yes r L n 88 v wd (Or.inl rfl) _ _ ?_
  rw [div88_V r hr v wd v0 v1, if_neg h, if_neg h2]

/-- What the laws of sums, of one operand and of products carry: the machine, the instruction's box and its row's, hansom/addr.bases. -/
structure PIn (C : Phys) (lv : Value) (w wx : World) (m : Mach) (i : Inst) (r : IRow) (T : TypeId) (B5 B6 : Nat) : Prop where
  o : Own wx C lv m
  b : Below w.heap.size w wx
  i : Box C lv wx B5 i.cells 30
  r : Box C lv wx B6 (rowC r) 47
  g : Box C lv wx 0 basesC T
  n : ∀ k, k < w.heap.size → ¬ C.own lv k
section
variable {C : Phys} {lv lv2 : Value} {w wx wy : World} {m m2 : Mach} {i : Inst} {r : IRow} {T : TypeId} {B5 B6 : Nat}
theorem PIn.below (h : PIn C lv w wx m i r T B5 B6) (hb : Below wx.heap.size wx wy) : PIn C lv w wy m i r T B5 B6 := ⟨h.o.below hb, h.b.trans (hb.mono h.b.size), h.i.below hb, h.r.below hb, h.g.below hb, h.n⟩
theorem PIn.alloc (h : PIn C lv w wx m i r T B5 B6) (o : Obj) : PIn C lv w (wx.alloc o) m i r T B5 B6 := h.below ((Below.refl _ _).alloc (Nat.le_refl _) _)
theorem PIn.drew (h : PIn C lv w wx m i r T B5 B6) : PIn C lv w wx.drew m i r T B5 B6 := h.below (Below.refl _ _).drew
theorem PIn.step (h : PIn C lv w wx m i r T B5 B6) (o : Own wy C lv2 m2) (f : Fr (C.own lv) wx wy) (k : ∀ k, lv2.ownBlock = some k → lv.ownBlock = some k ∨ wx.heap.size ≤ k) : PIn C lv2 w wy m2 i r T B5 B6 :=
  ⟨o, below_step h.b f h.n, h.i.step f k, h.r.step f k, h.g.step f k, own_lv h.n k h.b.size⟩
end
end Go.Proofs.YtcglkefaopgjeaaGreatDoor

/- Instructions that came in by value: opened to what the walks take, and read again behind. -/
namespace Go.Proofs.YtcglkefaopgjeaaGreatDoor
set_option linter.unusedSimpArgs false
set_option linter.unusedVariables false
open Go.ChangeShapes Go.WideShapes Go.RowKit

section
variable {H : Type} {enc : TypeId × Value → H} {w : World} {base : Nat} {spare : Nat → Bool} {held : Bool}
set_option maxRecDepth 100000 in
theorem open_inst_list (c0 c1 c2 c3 c4 c5 c6 c7 c8 c9 : Value) {fuel : Nat} {d : DataW H} {p : List MemPlace} (hf : DataW.trod enc Tryz.prog w base spare held fuel 30 [c0, c1, c2, c3, c4, c5, c6, c7, c8, c9] = some (d, p)) : ∃ I : Inst, Value.agg #[c0, c1, c2, c3, c4, c5, c6, c7, c8, c9] = I.val ∧ I.kinds ∧ p = [] := by
  obtain ⟨xs, m, _, hx, _, hlen, hg⟩ := DataW.trod_struct Tryz.underlying30 hf
  have kb : Tryz.prog.cellsOf 4 = 1 := by kernel_rfl
  have ki : Tryz.prog.cellsOf 3 = 1 := by kernel_rfl
  have k8 : Tryz.prog.cellsOf 5 = 1 := by kernel_rfl
  have k16 : Tryz.prog.cellsOf 22 = 1 := by kernel_rfl
  match xs, hlen with
  | [y0, y1, y2, y3, y4, y5, y6, y7, y8, y9], _ =>
    have h0 := hg 0 _ rfl
    have h1 := hg 1 _ rfl
    have h2 := hg 2 _ rfl
    have h3 := hg 3 _ rfl
    have h4 := hg 4 _ rfl
    have h5 := hg 5 _ rfl
    have h6 := hg 6 _ rfl
    have h7 := hg 7 _ rfl
    have h8 := hg 8 _ rfl
    have h9 := hg 9 _ rfl
    simp only [List.getElem_toArray, List.getElem_cons_zero, List.getElem_cons_succ] at h0 h1 h2 h3 h4 h5 h6 h7 h8 h9
    simp only [Value.cells, kb, ki, k8, k16, List.drop_zero, List.take_succ_cons, List.take_zero, List.drop_succ_cons, List.getElem?_cons_zero, List.getElem?_cons_succ] at h0 h1 h2 h3 h4 h5 h6 h7 h8 h9
    obtain ⟨x0, e0, d0⟩ := DataW.trod_bool Tryz.underlying4 h0
    obtain ⟨x1, e1, d1, w1⟩ := DataW.trod_int Tryz.underlying3 h1
    obtain ⟨x2, e2, d2, w2⟩ := DataW.trod_int Tryz.underlying3 h2
    obtain ⟨x3, e3, d3, w3⟩ := DataW.trod_int Tryz.underlying5 h3
    obtain ⟨x4, e4, d4, w4⟩ := DataW.trod_int Tryz.underlying3 h4
    obtain ⟨x5, e5, d5, w5⟩ := DataW.trod_int Tryz.underlying3 h5
    obtain ⟨x6, e6, d6, w6⟩ := DataW.trod_int Tryz.underlying3 h6
    obtain ⟨x7, e7, d7, w7⟩ := DataW.trod_int Tryz.underlying22 h7
    obtain ⟨x8, e8, d8, w8⟩ := DataW.trod_int Tryz.underlying22 h8
    obtain ⟨x9, e9, d9, w9⟩ := DataW.trod_int Tryz.underlying22 h9
    simp only [List.cons.injEq, and_true] at e0 e1 e2 e3 e4 e5 e6 e7 e8 e9
    subst e0 e1 e2 e3 e4 e5 e6 e7 e8 e9
    have b3 := bounds_u8 w3
    refine ⟨⟨x0, x1, x2, x3, x4, x5, x6, x7, x8, x9⟩, rfl, ⟨b3, bounds_u16 w7, bounds_u16 w8, bounds_u16 w9⟩, ?_⟩
    simp only [Prod.mk.injEq] at hx
    rw [hx.2]
    subst d0 d1 d2 d3 d4 d5 d6 d7 d8 d9
    simp
set_option maxRecDepth 100000 in
theorem open_inst {r : Reach} {b0 : Nat} {v : Value} {d : DataW H} {p : List MemPlace} (hv : Value.okWide Tryz.prog w r b0 30 v) (h : DataW.Trod enc Tryz.prog w base spare held 30 v d p) : ∃ I : Inst, v = I.val ∧ I.kinds ∧ p = [] := by
  obtain ⟨cs, rfl, hsz⟩ := okWide_struct Tryz.underlying30 hv
  have k : Tryz.prog.cellsOf 30 = 10 := by kernel_rfl
  rw [k] at hsz
  obtain ⟨l⟩ := cs
  obtain ⟨fuel, hf⟩ := h
  match l, hsz with
  | [c0, c1, c2, c3, c4, c5, c6, c7, c8, c9], _ => exact open_inst_list _ _ _ _ _ _ _ _ _ _ hf
theorem inst_stays {W W' : World} {d : DataW H} {i : Inst} (h : DataW.Trod enc Tryz.prog W base (fun _ => true) true 30 i.val d []) {sp : Nat → Bool} : DataW.Trod enc Tryz.prog W' base sp true 30 i.val d [] :=
  Go.WideElems.Trod_stays (by kernel_rfl) (by kernel_rfl) (by decide +kernel) h (fun p hp => by cases hp) (fun p hp => by cases hp)
end
end Go.Proofs.YtcglkefaopgjeaaGreatDoor

/- What the condition on hansom/addr.bases says of the first block. -/
namespace Go.Proofs.YtcglkefaopgjeaaGreatDoor
set_option linter.unusedSimpArgs false
set_option linter.unusedVariables false
open Go.ChangeShapes Go.WideShapes Go.ChangeAt Go.RowKit

set_option maxRecDepth 100000 in
theorem ints2 {w : World} {base : Nat} {sp : Nat → Bool} {held : Bool} {m : Nat} {x : DataW Unit × List MemPlace} {c d : Value} {a b : Int} (h : DataW.trod (fun _ => ()) Tryz.prog w base sp held m 68 [c, d] = some x)
    (hx : x.1 = .agg [.lit (.int .i64 a), .lit (.int .i64 b)]) : c = .int .i64 a ∧ d = .int .i64 b := by
  obtain ⟨xs, n, _, ex, _, hl, hel⟩ := DataW.trod_array Tryz.underlying68 h
  have k1 : Tryz.prog.cellsOf 3 = 1 := by kernel_rfl
  have h0 := hel 0 (by decide)
  have h1 := hel 1 (by decide)
  rw [k1] at h0 h1
  match xs, hl with
  | [y0, y1], _ =>
    obtain ⟨z0, e0, d0, _⟩ := DataW.trod_int Tryz.underlying3 h0
    obtain ⟨z1, e1, d1, _⟩ := DataW.trod_int Tryz.underlying3 h1
    rw [ex] at hx
    subst d0 d1
    simp only [List.map_cons, List.map_nil, DataW.agg.injEq, List.cons.injEq, DataW.lit.injEq, Lit.int.injEq, true_and, and_true] at hx
    simp at e0 e1
    rw [e0, e1, hx.1, hx.2]
    exact ⟨rfl, rfl⟩
set_option maxRecDepth 100000 in
theorem bases_row {W : World} (h : laidMetH Tryz.prog [("hansom/addr.bases", Rows.laid_hansom_addr_bases)] W) : ∃ T, Row W 0 basesC T := by
  rw [MakeChecks.laidMetH_plain _ _ _ (by kernel_rfl)] at h
  obtain ⟨ps, ⟨g, t, cs, fuel, p, q, hg, ht, hv, hd, _, rfl⟩, _, hcell⟩ := h
  obtain rfl := Option.some.inj ((show Tryz.prog.globalNamed "hansom/addr.bases" = some 0 by kernel_rfl).symm.trans hg)
  obtain rfl := Option.some.inj ((show (Tryz.prog.globals[0]?).map (·.type) = some 163 by kernel_rfl).symm.trans ht)
  obtain ⟨xs, m, _, ex, hc, hl, hel⟩ := DataW.trod_array Tryz.underlying163 hd
  have k16 : Tryz.prog.cellsOf 163 = 16 := by kernel_rfl
  have k2 : Tryz.prog.cellsOf 68 = 2 := by kernel_rfl
  rw [k16] at hc
  obtain ⟨cl⟩ := cs
  match cl, hc, xs, hl with
  | [c0, c1, c2, c3, c4, c5, c6, c7, c8, c9, c10, c11, c12, c13, c14, c15], _, [y0, y1, y2, y3, y4, y5, y6, y7], _ =>
    rw [k2] at hel
    have ex1 := (Prod.mk.inj ex).1
    unfold Rows.laid_hansom_addr_bases at ex1
    simp only [List.map_cons, List.map_nil, DataW.agg.injEq, List.cons.injEq, and_true] at ex1
    obtain ⟨z0, z1, z2, z3, z4, z5, z6, z7⟩ := ex1
    obtain ⟨rfl, rfl⟩ := ints2 (hel 0 (by decide)) z0.symm
    obtain ⟨rfl, rfl⟩ := ints2 (hel 1 (by decide)) z1.symm
    obtain ⟨rfl, rfl⟩ := ints2 (hel 2 (by decide)) z2.symm
    obtain ⟨rfl, rfl⟩ := ints2 (hel 3 (by decide)) z3.symm
    obtain ⟨rfl, rfl⟩ := ints2 (hel 4 (by decide)) z4.symm
    obtain ⟨rfl, rfl⟩ := ints2 (hel 5 (by decide)) z5.symm
    obtain ⟨rfl, rfl⟩ := ints2 (hel 6 (by decide)) z6.symm
    obtain ⟨rfl, rfl⟩ := ints2 (hel 7 (by decide)) z7.symm
    have hm : MemPlace.cell 0 0 ∈ MemPlace.row ⟨0, 0, none⟩ 16 ++ p ++ q := by
      refine List.mem_append_left _ (List.mem_append_left _ ?_)
      unfold MemPlace.row
      exact List.mem_map.2 ⟨0, by simp, rfl⟩
    obtain ⟨⟨c, T, hheap⟩, _⟩ := hcell 0 0 hm
    unfold World.var? at hv
    rw [hg, Option.bind_some, hheap] at hv
    obtain rfl := Option.some.inj hv
    exact ⟨T, hheap⟩
end Go.Proofs.YtcglkefaopgjeaaGreatDoor
