/- Parts of the proof, in one text: YtcglkefaopgjeaaGreatDoorQ0 YtcglkefaopgjeaaGreatDoorQ1 YtcglkefaopgjeaaGreatDoorQ4 YtcglkefaopgjeaaGreatDoorQ5 YtcglkefaopgjeaaGreatDoorS5 YtcglkefaopgjeaaGreatDoorS6 YtcglkefaopgjeaaGreatDoorSA YtcglkefaopgjeaaGreatDoorS7. Each part's own remark says what it proves; conditions: those of each theorem. -/
import Derived.Test.YtcglkefaopgjeaaGreatDoorV2
import Derived.Test.YtcglkefaopgjeaaGreatDoorV3
import Derived.Deep.CutBlock

/- An instruction's bytes are read as the instruction, and as nothing else: plain laws, no walk. -/
namespace Go.Proofs.YtcglkefaopgjeaaGreatDoor
set_option linter.unusedSimpArgs false
set_option linter.unusedVariables false
open Go.RowKit

/-- Bytes from a place on. -/
def Reads (bs : Nat → Int) (n : Nat) (l : List Int) : Prop := ∀ k, k < l.length → bs (n + k) = l.getD k 0
theorem Reads.app {bs : Nat → Int} {n : Nat} {l1 l2 : List Int} (h : Reads bs n (l1 ++ l2)) : Reads bs n l1 ∧ Reads bs (n + l1.length) l2 := by
  refine ⟨fun k hk => ?_, fun k hk => ?_⟩
  · rw [h k (by rw [List.length_append]; omega)]
    simp [List.getD_eq_getElem?_getD, List.getElem?_append_left hk]
  · rw [Nat.add_assoc, h (l1.length + k) (by rw [List.length_append]; omega)]
    rw [List.getD_eq_getElem?_getD, List.getD_eq_getElem?_getD, List.getElem?_append_right (by omega), Nat.add_sub_cancel_left]
theorem Reads.get {bs : Nat → Int} {l : List Int} (h : Reads bs 0 l) (k : Nat) (v : Int) (hk : l[k]? = some v) : bs k = v := by
  have hl : k < l.length := by rcases Nat.lt_or_ge k l.length with e | e; exact e; rw [List.getElem?_eq_none e] at hk; cases hk
  have := h k hl
  rwa [Nat.zero_add, List.getD_eq_getElem?_getD, hk] at this
theorem Reads.at {bs : Nat → Int} {n : Nat} {l : List Int} (h : Reads bs n l) (k : Nat) (hk : k < l.length) : bs (n + k) = l.getD k 0 := h k hk

def pre0 (lock : Bool) : List Int := if lock then [240] else []
def pre1 (rep : Int) : List Int := if 0 < rep then [241 + rep] else []
def pre2 (seg : Int) : List Int := if 0 < seg then [30 + 8 * seg] else []
def preL (i : Inst) : List Int := pre0 i.lock ++ pre1 i.rep ++ pre2 i.seg
def dispL (d x : Int) : List Int := if d = 1 then [x % 256] else if d = 2 then [x % 256, x / 256] else []
def secL (i : Inst) (r : IRow) : List Int := if r.mod then (64 * i.mod + 8 * i.reg + i.rm) :: dispL (dispsOf i.mod i.rm) i.disp else []
def immL (n imm sel : Int) : List Int := if n = 1 then [imm % 256] else if n = 2 then [imm % 256, imm / 256] else if n = 4 then [imm % 256, imm / 256, sel % 256, sel / 256] else []
def putL (i : Inst) : List Int := preL i ++ (i.op :: (secL i ((instRow i.op i.reg).getD zRow) ++ immL (immsOf ((instRow i.op i.reg).getD zRow)) i.imm i.sel))

theorem ahead_put (bs : Nat → Int) (lock : Bool) (rep seg op : Int) (hr0 : 0 ≤ rep) (hr : rep ≤ 2) (hs0 : 0 ≤ seg) (hs : seg ≤ 4) (ho : isPre op = false)
    (h : Reads bs 0 (pre0 lock ++ pre1 rep ++ pre2 seg)) (hop : bs (pre0 lock ++ pre1 rep ++ pre2 seg).length = op) :
    aheadF bs 4 0 false 0 0 = some (op, (pre0 lock ++ pre1 rep ++ pre2 seg).length + 1, lock, rep, seg) := by
  have e1 : rep = 0 ∨ rep = 1 ∨ rep = 2 := by omega
  have e2 : seg = 0 ∨ seg = 1 ∨ seg = 2 ∨ seg = 3 ∨ seg = 4 := by omega
  cases lock <;> rcases e1 with rfl | rfl | rfl <;> rcases e2 with rfl | rfl | rfl | rfl | rfl <;>
    simp [pre0, pre1, pre2] at h hop ⊢ <;>
    have h0 := h.get 0 <;> have h1 := h.get 1 <;> have h2 := h.get 2 <;> clear h <;>
    simp_all [aheadF, isPre]

/-- What a row's numbers tell of each other: by the table. -/
def tailOf (r : IRow) : Int := if immOf r.a = 0 then r.b else r.a
def rowOk (op : Int) (r : IRow) : Bool :=
  (r.mod == twoOf op) && (immsOf r == immOf (tailOf r)) &&
  (immsOf r != 1 || ((decide (r.a = 9 ∨ r.b = 8)) == (tailOf r == 8 || tailOf r == 9)))
theorem rows_ok : ∀ op : Fin 256, ∀ reg : Fin 8, (match isaOf (op.val : Nat) (reg.val : Nat) with | none => true | some r => rowOk (op.val : Nat) r) = true := by decide +kernel
theorem row_ok {op reg : Int} {r : IRow} (h0 : 0 ≤ op) (h1 : op ≤ 255) (g0 : 0 ≤ reg) (g1 : reg ≤ 7) (h : isaOf op reg = some r) : rowOk op r = true := by
  obtain ⟨a, rfl⟩ := Int.eq_ofNat_of_zero_le h0
  obtain ⟨b, rfl⟩ := Int.eq_ofNat_of_zero_le g0
  have := rows_ok ⟨a, by omega⟩ ⟨b, by omega⟩
  rw [show ((⟨a, by omega⟩ : Fin 256).val) = a from rfl, show ((⟨b, by omega⟩ : Fin 8).val) = b from rfl, h] at this
  exact this
theorem fits_sign {x : Int} (h : fitsB x = true) : signW (x % 256) = x := by unfold fitsB at h; simpa using h

theorem second_put (bs : Nat → Int) (n : Nat) (i : Inst) (r : IRow) (hi : i.wf) (hm : r.mod = true) (hs : secondB i r = true) (h : Reads bs n (secL i r)) :
    secondF bs n (opI i.op i.lock i.rep i.seg) = ({ i with imm := 0, sel := 0 }, n + (secL i r).length) := by
  obtain ⟨lock, rep, seg, op, mod, reg, rm, disp, imm, sel⟩ := i
  have w1 := hi.mod
  have w2 := hi.reg
  have w3 := hi.rm
  have w4 := hi.disp
  dsimp only at w1 w2 w3 w4
  unfold secL at h ⊢
  rw [hm, if_pos rfl] at h ⊢
  dsimp only at h ⊢
  have b0 : bs n = 64 * mod + 8 * reg + rm := by have := h 0 (by simp); simpa using this
  have e1 : bs n / 64 = mod := by omega
  have e2 : bs n / 8 % 8 = reg := by omega
  have e3 : bs n % 8 = rm := by omega
  unfold secondB at hs
  rw [hm, if_neg (by decide)] at hs
  dsimp only at hs
  split at hs
  · cases hs
  unfold secondF
  dsimp only
  rw [e1, e2, e3]
  have hd : dispsOf mod rm = 0 ∨ dispsOf mod rm = 1 ∨ dispsOf mod rm = 2 := by unfold dispsOf; split; simp; split <;> simp
  rcases hd with e | e | e <;> rw [e] at hs h ⊢ <;> simp only [if_pos, if_neg, show ¬ (0 : Int) = 1 by decide, show ¬ (0 : Int) = 2 by decide, show ¬ (1 : Int) = 0 by decide, show ¬ (2 : Int) = 0 by decide, show ¬ (2 : Int) = 1 by decide, dispL] at hs h ⊢
  · have : disp = 0 := by simpa using hs
    subst this
    rfl
  · have b1 : bs (n + 1) = disp % 256 := by have := h 1 (by simp); simpa using this
    rw [b1, fits_sign hs]; rfl
  · have b1 : bs (n + 1) = disp % 256 := by have := h 1 (by simp); simpa using this
    have b2 : bs (n + 2) = disp / 256 := by have := h 2 (by simp); simpa using this
    rw [b1, b2, show disp % 256 + 256 * (disp / 256) = disp by omega]; rfl

theorem behind_put (bs : Nat → Int) (n : Nat) (i : Inst) (r : IRow) (hi : i.wf) (hb : behindB i r = true) (hk : immsOf r = immOf (tailOf r)) (h8 : immsOf r = 1 → ((r.a = 9 ∨ r.b = 8) ↔ (tailOf r = 8 ∨ tailOf r = 9)))
    (h : Reads bs n (immL (immsOf r) i.imm i.sel)) :
    behindF bs n { i with imm := 0, sel := 0 } r = (i, n + (immL (immsOf r) i.imm i.sel).length) := by
  obtain ⟨lock, rep, seg, op, mod, reg, rm, disp, imm, sel⟩ := i
  have w5 := hi.imm
  have w6 := hi.sel
  dsimp only at w5 w6 h ⊢
  have ht : (tailB imm sel r.name (tailOf r)).getD (imm == 0 && sel == 0) = true := by
    unfold behindB at hb
    dsimp only at hb
    unfold tailOf
    have hn : ∀ k, immOf k = 0 → tailB imm sel r.name k = none := by
      intro k hk
      unfold immOf at hk
      unfold tailB
      repeat' split at hk
      all_goals first | omega | (rw [if_neg (by omega), if_neg (by omega), if_neg (by omega), if_neg (by omega)])
    have hsm : ∀ k, immOf k ≠ 0 → ∃ b, tailB imm sel r.name k = some b := by
      intro k hk
      unfold immOf at hk
      unfold tailB
      repeat' split
      all_goals first | exact ⟨_, rfl⟩ | (exfalso; apply hk; rw [if_neg (by omega), if_neg (by omega), if_neg (by omega)])
    split
    · next e => rw [hn _ e] at hb; exact hb
    · next e =>
      obtain ⟨b, hb2⟩ := hsm _ e
      rw [hb2] at hb ⊢
      exact hb
  clear hb
  generalize tailOf r = k at hk h8 ht
  rw [hk] at h h8 ⊢
  unfold behindF
  rw [hk]
  unfold tailB at ht
  by_cases k6 : k = 6
  · subst k6
    simp only [immOf, immL, if_pos, true_or] at h ht h8 ⊢
    have b0 : bs n = imm % 256 := by have := h 0 (by simp); simpa using this
    have hno : ¬ (r.a = 9 ∨ r.b = 8) := by intro e; have := (h8 trivial).1 e; omega
    simp at ht
    rw [if_neg hno, b0]
    have : imm % 256 = imm := by omega
    rw [this]
    have : sel = 0 := ht.1.2
    subst this
    rfl
  · by_cases k89 : k = 8 ∨ k = 9
    · have e1 : immOf k = 1 := by unfold immOf; rw [if_pos (by omega)]
      rw [if_neg k6, if_pos k89] at ht
      rw [e1] at h h8 ⊢
      have hyes : (r.a = 9 ∨ r.b = 8) := (h8 rfl).2 k89
      simp only [immL, if_pos] at h ⊢
      have b0 : bs n = imm % 256 := by have := h 0 (by simp); simpa using this
      simp at ht
      rw [if_pos hyes, b0, fits_sign ht.1]
      have : sel = 0 := ht.2
      subst this
      rfl
    · by_cases k7 : k = 7 ∨ k = 10 ∨ k = 12 ∨ k = 13
      · have e1 : immOf k = 2 := by unfold immOf; rw [if_neg (by omega), if_pos k7]
        rw [if_neg k6, if_neg k89, if_pos k7] at ht
        rw [e1] at h ⊢
        simp only [immL, if_pos, if_neg, show ¬ (2 : Int) = 1 by decide] at h ⊢
        have b0 : bs n = imm % 256 := by have := h 0 (by simp); simpa using this
        have b1 : bs (n + 1) = imm / 256 := by have := h 1 (by simp); simpa using this
        simp at ht
        rw [b0, b1, show imm % 256 + 256 * (imm / 256) = imm by omega, ht]
        rfl
      · by_cases k11 : k = 11
        · subst k11
          have e1 : immOf 11 = 4 := by decide
          rw [e1] at h ⊢
          simp only [immL, if_pos, if_neg, show ¬ (4 : Int) = 1 by decide, show ¬ (4 : Int) = 2 by decide] at h ⊢
          have b0 : bs n = imm % 256 := by have := h 0 (by simp); simpa using this
          have b1 : bs (n + 1) = imm / 256 := by have := h 1 (by simp); simpa using this
          have b2 : bs (n + 2) = sel % 256 := by have := h 2 (by simp); simpa using this
          have b3 : bs (n + 3) = sel / 256 := by have := h 3 (by simp); simpa using this
          rw [b0, b1, b2, b3, show imm % 256 + 256 * (imm / 256) = imm by omega, show sel % 256 + 256 * (sel / 256) = sel by omega]
          rfl
        · have e1 : immOf k = 0 := by unfold immOf; rw [if_neg (by omega), if_neg (by omega), if_neg (by omega)]
          rw [if_neg k6, if_neg k89, if_neg k7, if_neg k11] at ht
          rw [e1] at h ⊢
          simp only [immL, if_neg, show ¬ (0 : Int) = 1 by decide, show ¬ (0 : Int) = 2 by decide, show ¬ (0 : Int) = 4 by decide] at h ⊢
          simp at ht
          rw [ht.1, ht.2]
          rfl

/-- An instruction's bytes are read as the instruction. -/
theorem take_put (bs : Nat → Int) (i : Inst) (hi : i.wf) (hm : mayB i = true) (hr0 : 0 ≤ i.rep) (hr : i.rep ≤ 2) (h : Reads bs 0 (putL i)) : takeF bs = some (i, (putL i).length) := by
  unfold mayB at hm
  cases hrow : instRow i.op i.reg with
  | none => rw [hrow] at hm; cases hm
  | some r =>
    have hm0 := hm
    rw [hrow] at hm
    simp only [Bool.and_eq_true] at hm
    obtain ⟨⟨h2, hb⟩, hp⟩ := hm
    have hpre : isPre i.op = false := by
      unfold instRow at hrow
      split at hrow
      · cases hrow
      · next e => simpa using e
    have hisa : isaOf i.op i.reg = some r := by rwa [instRow, hpre, if_neg (by decide)] at hrow
    have ok := row_ok hi.op.1 hi.op.2 hi.reg.1 hi.reg.2 hisa
    unfold rowOk at ok
    simp only [Bool.and_eq_true, beq_iff_eq] at ok
    obtain ⟨⟨k1, k2⟩, k3⟩ := ok
    unfold putL at h ⊢
    rw [hrow, Option.getD_some] at h ⊢
    obtain ⟨ha, hrest⟩ := h.app
    rw [Nat.zero_add] at hrest
    have hop : bs (preL i).length = i.op := by have := hrest 0 (by simp); simpa using this
    have hs : i.seg = i.seg := rfl
    have hseg : 0 ≤ i.seg ∧ i.seg ≤ 4 := by
      unfold prefixesB at hp
      simp only [Bool.and_eq_true, decide_eq_true_eq] at hp
      exact ⟨hp.1.2, hp.2⟩
    have e1 := ahead_put bs i.lock i.rep i.seg i.op hr0 hr hseg.1 hseg.2 hpre ha hop
    change aheadF bs 4 0 false 0 0 = some (i.op, (preL i).length + 1, i.lock, i.rep, i.seg) at e1
    unfold takeF
    rw [e1]
    dsimp only
    have hrest2 : Reads bs ((preL i).length + 1) (secL i r ++ immL (immsOf r) i.imm i.sel) := by
      have := (Reads.app (l1 := [i.op]) (l2 := secL i r ++ immL (immsOf r) i.imm i.sel) hrest).2
      exact this
    obtain ⟨hsec, himm⟩ := hrest2.app
    have e2 : twoF bs i.op ((preL i).length + 1) i.lock i.rep i.seg = ({ i with imm := 0, sel := 0 }, (preL i).length + 1 + (secL i r).length) := by
      unfold twoF
      cases hmod : r.mod with
      | true => rw [← k1, hmod, if_pos rfl]; exact second_put bs _ i r hi hmod h2 hsec
      | false =>
        rw [← k1, hmod, if_neg (by decide)]
        unfold secondB at h2
        rw [hmod, if_pos rfl] at h2
        simp only [Bool.and_eq_true, beq_iff_eq] at h2
        obtain ⟨⟨⟨q1, q2⟩, q3⟩, q4⟩ := h2
        unfold secL
        rw [hmod]
        simp only [Bool.false_eq_true, if_false, List.length_nil, Nat.add_zero]
        simp [opI, q1, q2, q3, q4]
    rw [e2]
    unfold restF
    dsimp only
    rw [hisa]
    dsimp only
    have h8 : immsOf r = 1 → ((r.a = 9 ∨ r.b = 8) ↔ (tailOf r = 8 ∨ tailOf r = 9)) := by
      intro e
      rw [e] at k3
      simp only [bne_self_eq_false, Bool.false_or, beq_iff_eq] at k3
      constructor
      · intro q
        rw [decide_eq_true q] at k3
        have := k3.symm
        simpa using this
      · intro q
        have : (tailOf r == 8 || tailOf r == 9) = true := by simpa using q
        rw [this] at k3
        exact of_decide_eq_true k3
    rw [behind_put bs _ i r hi hb k2 h8 himm]
    dsimp only
    have : mayB i = true := by unfold mayB; exact hm0
    rw [this, if_pos rfl]
    congr 2
    simp [List.length_append]
    omega
end Go.Proofs.YtcglkefaopgjeaaGreatDoor

/- The reference's instruction near any numbers is one that may be, and its bytes are bytes: plain laws, no walk. -/
namespace Go.Proofs.YtcglkefaopgjeaaGreatDoor
set_option linter.unusedSimpArgs false
set_option linter.unusedVariables false
open Go.RowKit

abbrev nopI : Inst := ⟨false, 0, 0, 144, 0, 0, 0, 0, 0, 0⟩
def nearRep (rep n : Int) : Int := if 0 < n ∧ 0 < rep % 4 then (if n = 2 ∧ rep % 2 = 1 then 1 else 2) else 0
def nearSeg (seg : Int) : Int := if seg % 8 ≤ 4 then seg % 8 else 0
def nearDisp (d disp : Int) : Int := if d = 1 then signW (disp % 256) else if d = 2 then disp else 0
def nearImm (k name imm : Int) : Int :=
  if k = 6 then (if name = 70 ∨ name = 71 then 10 else imm % 256) else if k = 8 ∨ k = 9 then signW (imm % 256) else
  if k = 7 ∨ k = 10 ∨ k = 12 ∨ k = 13 then imm else if k = 11 then imm else 0
def nearSel (k sel : Int) : Int := if k = 11 then sel else 0
/-- An instruction near one of any numbers, by its row. -/
def nearR (x : Inst) (r : IRow) : Inst :=
  ⟨x.lock, nearRep x.rep (repsOf r.name), nearSeg x.seg, x.op, if r.mod then x.mod % 4 else 0, if r.mod then x.reg % 8 else 0, if r.mod then x.rm % 8 else 0,
    if r.mod then nearDisp (dispsOf (x.mod % 4) (x.rm % 8)) x.disp else 0, nearImm (tailOf r) r.name x.imm, nearSel (tailOf r) x.sel⟩
def nearI (x : Inst) : Inst := match instRow x.op (x.reg % 8) with
  | none => nopI
  | some r => if mayB (nearR x r) then nearR x r else nopI

/-- Numbers of their kinds. -/
structure Inst.kinds (i : Inst) : Prop where
  op : 0 ≤ i.op ∧ i.op ≤ 255
  disp : 0 ≤ i.disp ∧ i.disp ≤ 65535
  imm : 0 ≤ i.imm ∧ i.imm ≤ 65535
  sel : 0 ≤ i.sel ∧ i.sel ≤ 65535
structure Inst.good (i : Inst) : Prop where
  wf : i.wf
  may : mayB i = true
  rep : 0 ≤ i.rep ∧ i.rep ≤ 2
  seg : 0 ≤ i.seg ∧ i.seg ≤ 4
theorem nop_good : nopI.good := ⟨⟨by decide, by decide, by decide, by decide, by decide, by decide, by decide⟩, by decide +kernel, by decide, by decide⟩
theorem nearR_wf (x : Inst) (h : x.kinds) (r : IRow) : (nearR x r).wf ∧ (0 ≤ (nearR x r).rep ∧ (nearR x r).rep ≤ 2) ∧ (0 ≤ (nearR x r).seg ∧ (nearR x r).seg ≤ 4) := by
  have s0 := signW_lo (x.disp % 256) (by omega)
  have s1 := signW_hi (x.disp % 256) (by omega)
  have t0 := signW_lo (x.imm % 256) (by omega)
  have t1 := signW_hi (x.imm % 256) (by omega)
  have hd := h.disp
  have hi := h.imm
  have hs := h.sel
  refine ⟨⟨h.op, ?_, ?_, ?_, ?_, ?_, ?_⟩, ?_, ?_⟩
  all_goals
    simp only [nearR, nearDisp, nearImm, nearSel, nearRep, nearSeg]
    repeat' split
    all_goals omega
theorem near_good (x : Inst) (h : x.kinds) : (nearI x).good := by
  unfold nearI
  split
  · exact nop_good
  · next r _ =>
    split
    · next e => exact ⟨(nearR_wf x h r).1, e, (nearR_wf x h r).2.1, (nearR_wf x h r).2.2⟩
    · exact nop_good
theorem preL_le (i : Inst) : (preL i).length ≤ 3 := by
  unfold preL pre0 pre1 pre2; simp only [List.length_append]; repeat' split
  all_goals simp
theorem secL_le (i : Inst) (r : IRow) : (secL i r).length ≤ 3 := by
  unfold secL dispL; repeat' split
  all_goals simp
theorem immL_le (n a b : Int) : (immL n a b).length ≤ 4 := by
  unfold immL; repeat' split
  all_goals simp
theorem putL_le (i : Inst) : (putL i).length ≤ 11 := by
  have h1 := preL_le i
  have h2 := secL_le i ((instRow i.op i.reg).getD zRow)
  have h3 := immL_le (immsOf ((instRow i.op i.reg).getD zRow)) i.imm i.sel
  unfold putL
  simp only [List.length_append, List.length_cons]
  omega
theorem putL_pos (i : Inst) : 1 ≤ (putL i).length := by
  unfold putL
  simp only [List.length_append, List.length_cons]
  omega
theorem putL_byte (i : Inst) (hi : i.good) : ∀ x ∈ putL i, 0 ≤ x ∧ x ≤ 255 := by
  have w := hi.wf
  have w1 := w.op
  have w2 := w.mod
  have w3 := w.reg
  have w4 := w.rm
  have w5 := w.disp
  have w6 := w.imm
  have w7 := w.sel
  have r := hi.rep
  have s := hi.seg
  intro x hx
  unfold putL preL pre0 pre1 pre2 secL dispL immL at hx
  simp only [List.mem_append, List.mem_cons] at hx
  repeat' split at hx
  all_goals
    simp only [List.mem_cons, List.not_mem_nil, or_false, false_or] at hx
    omega
end Go.Proofs.YtcglkefaopgjeaaGreatDoor

/- The reference's near instruction, where no operand must lie in memory; one of one name is found: plain laws, no walk. -/
namespace Go.Proofs.YtcglkefaopgjeaaGreatDoor
set_option linter.unusedSimpArgs false
set_option linter.unusedVariables false
open Go.RowKit

theorem behindB_tail (i : Inst) (r : IRow) : behindB i r = (tailB i.imm i.sel r.name (tailOf r)).getD (i.imm == 0 && i.sel == 0) := by
  have hn : ∀ k, immOf k = 0 → tailB i.imm i.sel r.name k = none := by
    intro k hk
    unfold immOf at hk
    unfold tailB
    repeat' split at hk
    all_goals first | omega | (rw [if_neg (by omega), if_neg (by omega), if_neg (by omega), if_neg (by omega)])
  have hsm : ∀ k, immOf k ≠ 0 → ∃ b, tailB i.imm i.sel r.name k = some b := by
    intro k hk
    unfold immOf at hk
    unfold tailB
    repeat' split
    all_goals first | exact ⟨_, rfl⟩ | (exfalso; apply hk; rw [if_neg (by omega), if_neg (by omega), if_neg (by omega)])
  unfold behindB tailOf
  split
  · next e => rw [hn _ e]; rfl
  · next e => obtain ⟨b, hb⟩ := hsm _ e; rw [hb]; rfl
theorem signW_mod (b : Int) (h0 : 0 ≤ b) (h1 : b ≤ 255) : signW b % 256 = b := by unfold signW; split <;> omega
theorem fits_signW (b : Int) (h0 : 0 ≤ b) (h1 : b ≤ 255) : fitsB (signW b) = true := by unfold fitsB; rw [signW_mod b h0 h1]; simp
theorem reps3 (n : Int) : repsOf n = 0 ∨ repsOf n = 1 ∨ repsOf n = 2 := by unfold repsOf; split; simp; split <;> simp
/-- Whatever numbers, where no operand must lie in memory. -/
theorem near_may (x : Inst) (r : IRow) (hr : instRow x.op (x.reg % 8) = some r) (hr2 : r.mod = false → instRow x.op 0 = some r) (h1 : r.a ≠ 19) (h2 : r.b ≠ 19) (h3 : r.b ≠ 20) :
    mayB (nearR x r) = true ∧ instRow (nearR x r).op (nearR x r).reg = some r := by
  have hrow : instRow (nearR x r).op (nearR x r).reg = some r := by
    show instRow x.op (if r.mod then x.reg % 8 else 0) = some r
    cases hm : r.mod with
    | true => exact hr
    | false => exact hr2 hm
  refine ⟨?_, hrow⟩
  unfold mayB
  rw [hrow]
  dsimp only
  rw [behindB_tail]
  have hs : secondB (nearR x r) r = true := by
    unfold secondB nearR
    cases hm : r.mod with
    | false => simp
    | true =>
      simp only [Bool.true_eq_false, if_false, if_true]
      rw [if_neg (by simp [h1, h2, h3])]
      unfold nearDisp
      have hd : dispsOf (x.mod % 4) (x.rm % 8) = 0 ∨ dispsOf (x.mod % 4) (x.rm % 8) = 1 ∨ dispsOf (x.mod % 4) (x.rm % 8) = 2 := by unfold dispsOf; split; simp; split <;> simp
      rcases hd with e | e | e <;> rw [e] <;> simp
      exact fits_signW _ (by omega) (by omega)
  have hb : (tailB (nearR x r).imm (nearR x r).sel r.name (tailOf r)).getD ((nearR x r).imm == 0 && (nearR x r).sel == 0) = true := by
    show (tailB (nearImm (tailOf r) r.name x.imm) (nearSel (tailOf r) x.sel) r.name (tailOf r)).getD (nearImm (tailOf r) r.name x.imm == 0 && nearSel (tailOf r) x.sel == 0) = true
    generalize tailOf r = k
    unfold tailB nearImm nearSel
    by_cases k6 : k = 6
    · subst k6
      by_cases h7 : r.name = 70 ∨ r.name = 71
      · simp [h7]
      · have a1 : r.name ≠ 70 := fun e => h7 (Or.inl e)
        have a2 : r.name ≠ 71 := fun e => h7 (Or.inr e)
        simp [h7, a1, a2]
        omega
    · by_cases k8 : k = 8 ∨ k = 9
      · have : k ≠ 11 := by omega
        simp [k6, k8, this]
        exact fits_signW _ (by omega) (by omega)
      · by_cases k7 : k = 7 ∨ k = 10 ∨ k = 12 ∨ k = 13
        · have : k ≠ 11 := by omega
          simp [k6, k8, k7, this]
        · by_cases k11 : k = 11
          · subst k11; simp
          · simp [k6, k8, k7, k11]
  have hp : prefixesB (nearR x r) r = true := by
    unfold prefixesB nearR nearRep nearSeg
    dsimp only
    rcases reps3 r.name with e | e | e <;> rw [e] <;> simp <;> repeat' split
    all_goals (first | (simp; omega) | omega | simp)
  rw [hs, hb, hp]
  rfl
/-- An instruction of one name is looked for: one try. -/
def tryOp (x : Inst) (k : Nat) : Int := (x.op + k) % 256
def tryReg (x : Inst) (n : Nat) : Int := (x.reg % 8 + n) % 8
def tryI (x : Inst) (k n : Nat) : Inst := nearI { x with op := tryOp x k, reg := tryReg x n }
def tryOk (x : Inst) (lo hi : Int) (k n : Nat) : Bool :=
  decide (lo ≤ ((instRow (tryI x k n).op (tryI x k n).reg).getD ⟨0, 0, 0, false⟩).name) && decide (((instRow (tryI x k n).op (tryI x k n).reg).getD ⟨0, 0, 0, false⟩).name ≤ hi) && ((tryI x k n).op == tryOp x k)
/-- There is such a one. -/
theorem try_row (x : Inst) (lo hi : Int) (k n : Nat) (op reg : Int) (hop : tryOp x k = op) (hreg : reg = tryReg x n) (r : IRow) (hr : instRow op reg = some r) (hr2 : r.mod = false → instRow op 0 = some r) (h1 : r.a ≠ 19) (h2 : r.b ≠ 19) (h3 : r.b ≠ 20) (h4 : lo ≤ r.name) (h5 : r.name ≤ hi) : tryOk x lo hi k n = true := by
  have g0 : 0 ≤ tryReg x n ∧ tryReg x n ≤ 7 := by unfold tryReg; omega
  have hm : tryReg x n % 8 = tryReg x n := by omega
  have hx := near_may { x with op := tryOp x k, reg := tryReg x n } r (by dsimp only; rw [hm, hop, ← hreg]; exact hr) (by dsimp only; rw [hop]; exact hr2) h1 h2 h3
  have e : tryI x k n = nearR { x with op := tryOp x k, reg := tryReg x n } r := by
    unfold tryI nearI
    dsimp only
    rw [hm, hop, ← hreg, hr]
    dsimp only
    rw [hop, ← hreg] at hx
    rw [hx.1, if_pos rfl]
  unfold tryOk
  rw [e, hx.2, Option.getD_some]
  simp [h4, h5, nearR]
theorem tryOp_at (x : Inst) (h0 : 0 ≤ x.op) (h1 : x.op ≤ 255) (op : Nat) (h : op < 256) : tryOp x (((op : Int) - x.op) % 256).toNat = op := by unfold tryOp; omega
theorem tryReg_at (x : Inst) (g : Nat) (h : g < 8) : tryReg x (((g : Int) - x.reg % 8) % 8).toNat = g := by unfold tryReg; omega
end Go.Proofs.YtcglkefaopgjeaaGreatDoor

/- What the reference's May says of its near instruction: plain laws, no walk. -/
namespace Go.Proofs.YtcglkefaopgjeaaGreatDoor
set_option linter.unusedSimpArgs false
set_option linter.unusedVariables false
open Go.RowKit

def rowOk2 (op : Int) (r : IRow) : Bool := decide (1 ≤ r.name) && decide (r.name ≤ 95) && decide (0 ≤ r.a) && decide (r.a ≤ 24) && decide (0 ≤ r.b) && decide (r.b ≤ 24) && (r.a != 20) && (r.mod || decide (isaOf op 0 = some r))
theorem rows_ok2 : ∀ op : Fin 256, ∀ reg : Fin 8, (match isaOf (op.val : Nat) (reg.val : Nat) with | none => true | some r => rowOk2 (op.val : Nat) r) = true := by decide +kernel
structure RowFine (op : Int) (r : IRow) : Prop where
  n0 : 1 ≤ r.name
  n1 : r.name ≤ 95
  a0 : 0 ≤ r.a
  a1 : r.a ≤ 24
  b0 : 0 ≤ r.b
  b1 : r.b ≤ 24
  a20 : r.a ≠ 20
  alone : r.mod = false → isaOf op 0 = some r
theorem row_fine {op reg : Int} {r : IRow} (h0 : 0 ≤ op) (h1 : op ≤ 255) (g0 : 0 ≤ reg) (g1 : reg ≤ 7) (h : isaOf op reg = some r) : RowFine op r := by
  obtain ⟨a, rfl⟩ := Int.eq_ofNat_of_zero_le h0
  obtain ⟨b, rfl⟩ := Int.eq_ofNat_of_zero_le g0
  have := rows_ok2 ⟨a, by omega⟩ ⟨b, by omega⟩
  rw [show ((⟨a, by omega⟩ : Fin 256).val) = a from rfl, show ((⟨b, by omega⟩ : Fin 8).val) = b from rfl, h] at this
  simp only [rowOk2, Bool.and_eq_true, decide_eq_true_eq, bne_iff_ne, Bool.or_eq_true] at this
  obtain ⟨⟨⟨⟨⟨⟨⟨x1, x2⟩, x3⟩, x4⟩, x5⟩, x6⟩, x7⟩, x8⟩ := this
  exact ⟨x1, x2, x3, x4, x5, x6, x7, fun hm => by rcases x8 with e | e; rw [e] at hm; cases hm; exact e⟩
theorem instRow_some {op reg : Int} {r : IRow} (h : instRow op reg = some r) : isPre op = false ∧ isaOf op reg = some r := by
  unfold instRow at h
  split at h
  · cases h
  · next e => exact ⟨by simpa using e, h⟩
theorem instRow_alone {op reg : Int} {r : IRow} (h0 : 0 ≤ op) (h1 : op ≤ 255) (g0 : 0 ≤ reg) (g1 : reg ≤ 7) (h : instRow op reg = some r) (hm : r.mod = false) : instRow op 0 = some r := by
  have hp := instRow_some h
  rw [instRow, hp.1, if_neg (by decide)]
  exact (row_fine h0 h1 g0 g1 hp.2).alone hm
/-- An operand in memory is asked for, and there is none. -/
def noMem (mod : Int) (r : IRow) : Bool := r.mod && (mod == 3 && (r.a == 19 || r.a == 20 || r.b == 19 || r.b == 20))
/-- What May asks for beside that. -/
structure Nearly (i : Inst) (r : IRow) : Prop where
  wf : i.wf
  rep : i.rep = 0 ∨ (i.rep = 1 ∧ repsOf r.name = 2) ∨ (i.rep = 2 ∧ 1 ≤ repsOf r.name)
  seg : 0 ≤ i.seg ∧ i.seg ≤ 4
  none : r.mod = false → i.mod = 0 ∧ i.reg = 0 ∧ i.rm = 0 ∧ i.disp = 0
  d0 : r.mod = true → dispsOf i.mod i.rm = 0 → i.disp = 0
  d1 : r.mod = true → dispsOf i.mod i.rm = 1 → fitsB i.disp = true
  tail : (tailB i.imm i.sel r.name (tailOf r)).getD (i.imm == 0 && i.sel == 0) = true
theorem nearly_near (x : Inst) (h : x.kinds) (r : IRow) : Nearly (nearR x r) r := by
  refine ⟨(nearR_wf x h r).1, ?_, (nearR_wf x h r).2.2, ?_, ?_, ?_, ?_⟩
  · unfold nearR nearRep
    dsimp only
    rcases reps3 r.name with e | e | e <;> rw [e] <;> simp <;> repeat' split
    all_goals omega
  · intro hm; unfold nearR; simp [hm]
  · intro hm hd; unfold nearR at hd ⊢; simp only [hm, if_true] at hd ⊢; unfold nearDisp; rw [hd]; simp
  · intro hm hd; unfold nearR at hd ⊢; simp only [hm, if_true] at hd ⊢; unfold nearDisp; rw [hd]; simp; exact fits_signW _ (by omega) (by omega)
  · show (tailB (nearImm (tailOf r) r.name x.imm) (nearSel (tailOf r) x.sel) r.name (tailOf r)).getD (nearImm (tailOf r) r.name x.imm == 0 && nearSel (tailOf r) x.sel == 0) = true
    generalize tailOf r = k
    unfold tailB nearImm nearSel
    by_cases k6 : k = 6
    · subst k6
      by_cases h7 : r.name = 70 ∨ r.name = 71
      · simp [h7]
      · have a1 : r.name ≠ 70 := fun e => h7 (Or.inl e)
        have a2 : r.name ≠ 71 := fun e => h7 (Or.inr e)
        simp [h7, a1, a2]
        omega
    · by_cases k8 : k = 8 ∨ k = 9
      · have : k ≠ 11 := by omega
        simp [k6, k8, this]
        exact fits_signW _ (by omega) (by omega)
      · by_cases k7 : k = 7 ∨ k = 10 ∨ k = 12 ∨ k = 13
        · have : k ≠ 11 := by omega
          simp [k6, k8, k7, this]
        · by_cases k11 : k = 11
          · subst k11; simp
          · simp [k6, k8, k7, k11]
theorem mayB_nearly (i : Inst) (r : IRow) (h : Nearly i r) (hr : instRow i.op i.reg = some r) (ha : r.a ≠ 20) : mayB i = !noMem i.mod r := by
  unfold mayB
  rw [hr]
  dsimp only
  rw [behindB_tail, h.tail, Bool.and_true]
  have hp : prefixesB i r = true := by
    unfold prefixesB
    have := h.seg
    rcases h.rep with e | ⟨e, e2⟩ | ⟨e, e2⟩ <;> simp [*]
  rw [hp, Bool.and_true]
  unfold secondB noMem
  cases hm : r.mod with
  | false =>
    obtain ⟨q1, q2, q3, q4⟩ := h.none hm
    simp [q1, q2, q3, q4]
  | true =>
    have ha2 : (r.a == 20) = false := by simpa using ha
    rw [if_neg (by decide), ha2, Bool.or_false, Bool.true_and]
    cases hb : (i.mod == 3 && (r.a == 19 || r.b == 19 || r.b == 20)) with
    | true => rfl
    | false =>
      rw [if_neg (by decide)]
      have hd : dispsOf i.mod i.rm = 0 ∨ dispsOf i.mod i.rm = 1 ∨ dispsOf i.mod i.rm = 2 := by unfold dispsOf; split; simp; split <;> simp
      rcases hd with e | e | e
      · rw [e, if_pos rfl, h.d0 hm e]; rfl
      · rw [e, if_neg (by decide), if_pos rfl, h.d1 hm e]; rfl
      · rw [e, if_neg (by decide), if_neg (by decide)]; rfl
end Go.Proofs.YtcglkefaopgjeaaGreatDoor

/- The reference's May: walk. -/
namespace Go.Proofs.YtcglkefaopgjeaaGreatDoor
set_option linter.unusedSimpArgs false
set_option linter.unusedVariables false
open Go.RowKit

set_option maxRecDepth 100000 in
set_option maxHeartbeats 6400000 in
theorem may_any5 (i : Inst) (r : IRow) (h : Nearly i r) (hr : instRow i.op i.reg = some r) (w : World) : Calls Tryz.prog 48 #[i.val] w fun e w' => e = .returned (.bool (!noMem i.mod r)) ∧ Below w.heap.size w w' := by
  have hf := row_fine h.wf.op.1 h.wf.op.2 h.wf.reg.1 h.wf.reg.2 (instRow_some hr).2
  have HRow := Lib.hid (fun w => row_any5 i w h.wf.op.1 h.wf.op.2 h.wf.reg.1 h.wf.reg.2)
  rw [hr] at HRow
  have HRep : ∀ w, Calls Tryz.prog 47 #[.int .i64 r.name] w fun e w' => e = .returned (.int .i64 (repsOf r.name)) ∧ w = w' := by
    intro w
    have := repeats_any4 r.name.toNat (by have := hf.n1; omega) w
    rwa [Int.toNat_of_nonneg (by have := hf.n0; omega)] at this
  obtain ⟨lock, rep, seg, op, mod, reg, rm, disp, imm, sel⟩ := i
  obtain ⟨rn, ra, rb, rmod⟩ := r
  have hw := h.wf
  have e1 := h.rep
  have e2 := h.seg
  have e3 := h.none
  have e4 := h.d0
  have e5 := h.d1
  have e6 := h.tail
  have w1 := hw.mod
  have w2 := hw.reg
  have w3 := hw.rm
  have w4 := hw.disp
  have w5 := hw.imm
  have w6 := hw.sel
  dsimp only at e1 e2 e3 e4 e5 e6 w1 w2 w3 w4 w5 w6 HRep HRow
  obtain ⟨nr, hnr⟩ : ∃ n, repsOf rn = n := ⟨_, rfl⟩
  rw [hnr] at e1
  simp only [hnr] at HRep
  have HREP := Lib.hid HRep
  clear hnr HRep hr hf hw h
  have E1 := Lib.hid e1
  have E3 := Lib.hid e3
  have E4 := Lib.hid e4
  have E5 := Lib.hid e5
  have E6 := Lib.hid e6
  clear e1 e3 e4 e5 e6
  have hi0 := Row.new w #[.bool lock, .int .i64 rep, .int .i64 seg, .int .u8 op, .int .i64 mod, .int .i64 reg, .int .i64 rm, .int .u16 disp, .int .u16 imm, .int .u16 sel] 30
  have HI0 := Lib.hid hi0
  have xi0 := hi0.cell
  have HB0 := Lib.hid ((Below.refl w.heap.size w).alloc (Nat.le_refl _) (.cells #[.bool lock, .int .i64 rep, .int .i64 seg, .int .u8 op, .int .i64 mod, .int .i64 reg, .int .i64 rm, .int .u16 disp, .int .u16 imm, .int .u16 sel] 30))
  clear hi0
  have g1 : ¬ seg < 0 := by omega
  have g2 : ¬ 4 < seg := by omega
  go_enter Tryz.func48, Tryz.ntmps48
  go_wp2_with fail
  generalize w.alloc (.cells #[.bool lock, .int .i64 rep, .int .i64 seg, .int .u8 op, .int .i64 mod, .int .i64 reg, .int .i64 rm, .int .u16 disp, .int .u16 imm, .int .u16 sel] 30) = W0 at *
  refine (HRow.out _).mono ?_
  rw [rowV_some]
  rintro e w1' ⟨rfl, hb⟩; dsimp only
  have HB1 := Lib.hid ((HB0.out.trans (hb.mono HB0.out.size)).alloc (Nat.le_trans HB0.out.size hb.size) (.cells #[.int .i64 rn, .int .i64 ra, .int .i64 rb, .bool rmod] 47))
  have hi1 := (Below.row hb HI0.out HI0.out.lt).alloc (.cells #[.int .i64 rn, .int .i64 ra, .int .i64 rb, .bool rmod] 47)
  have hx1 := Row.new w1' #[.int .i64 rn, .int .i64 ra, .int .i64 rb, .bool rmod] 47
  clear hb xi0
  go_upto_region 2 with fail
  generalize w1'.alloc (.cells #[.int .i64 rn, .int .i64 ra, .int .i64 rb, .bool rmod] 47) = W1 at HB1 hi1 hx1 ⊢
  have xi := hi1.cell
  have xr := hx1.cell
  clear hi1 hx1
  go_wp2_with fail
  refine (HREP.out _).mono ?_
  rintro e w2' ⟨rfl, rfl⟩; dsimp only
  go_upto_region 5 with fail
  go_cut [53] (fun s53 wx => s53 = .bool false ∧ W1 = wx)
  case first =>
    have r1 : ¬ rep < 0 := by have := E1.out; omega
    have r2 : ¬ 2 < rep := by have := E1.out; omega
    rcases E1.out with e | ⟨e, e2⟩ | ⟨e, e2⟩
    · subst e
      as_aux_lemma => (go_wp2_with fail; go_meet; exact ⟨rfl, rfl⟩)
    · subst e e2
      as_aux_lemma => (go_wp2_with fail; go_meet; exact ⟨rfl, rfl⟩)
    · subst e
      have r3 : ¬ nr < 1 := by omega
      as_aux_lemma => (go_wp2_with fail; go_meet; exact ⟨rfl, rfl⟩)
  case rest =>
    obtain ⟨rfl, rfl⟩ := hcut
    go_upto_if 56 with fail
    go_cut [] (fun wx => W1 = wx ∧ noMem mod ⟨rn, ra, rb, rmod⟩ = false)
    case first =>
      cases rmod with
      | false =>
        obtain ⟨rfl, rfl, rfl, rfl⟩ := E3.out rfl
        as_aux_lemma => (go_wp2_with fail; go_meet; exact ⟨rfl, rfl⟩)
      | true =>
        have m1 : ¬ mod < 0 := by omega
        have m2 : ¬ 3 < mod := by omega
        have m3 : ¬ reg < 0 := by omega
        have m4 : ¬ 7 < reg := by omega
        have m5 : ¬ rm < 0 := by omega
        have m6 : ¬ 7 < rm := by omega
        by_cases h3 : mod = 3
        · have HM := Lib.hid h3
          have k3 : (mod == 3) = true := by simp [h3]
          have hdd : dispsOf mod rm = 0 := by rw [h3]; rfl
          have HD := Lib.hid hdd
          have hz := E4.out rfl hdd
          subst hz
          clear h3 hdd
          obtain ⟨b1, v1⟩ : ∃ b, (ra == 19) = b := ⟨_, rfl⟩
          obtain ⟨b2, v2⟩ : ∃ b, (ra == 20) = b := ⟨_, rfl⟩
          obtain ⟨b3, v3⟩ : ∃ b, (rb == 19) = b := ⟨_, rfl⟩
          obtain ⟨b4, v4⟩ : ∃ b, (rb == 20) = b := ⟨_, rfl⟩
          have HN := Lib.hid (show noMem mod ⟨rn, ra, rb, true⟩ = (b1 || b2 || b3 || b4) by unfold noMem; rw [k3]; dsimp only; rw [v1, v2, v3, v4]; simp)
          cases b1 with
          | true => as_aux_lemma => (go_wp2_with fail; go_ret; rw [HN.out]; exact ⟨rfl, HB1.out⟩)
          | false =>
          cases b2 with
          | true => as_aux_lemma => (go_wp2_with fail; go_ret; rw [HN.out]; exact ⟨rfl, HB1.out⟩)
          | false =>
          cases b3 with
          | true => as_aux_lemma => (go_wp2_with fail; go_ret; rw [HN.out]; exact ⟨rfl, HB1.out⟩)
          | false =>
          cases b4 with
          | true => as_aux_lemma => (go_wp2_with fail; go_ret; rw [HN.out]; exact ⟨rfl, HB1.out⟩)
          | false =>
            as_aux_lemma => (go_wp2_with (go_at_call 44; refine (disps_any5 _ _ _).mono ?_; rw [HD.out]; rintro e w' ⟨rfl, rfl⟩); go_meet; exact ⟨rfl, HN.out⟩)
        · have k3 : (mod == 3) = false := by simp [h3]
          have HN := Lib.hid (show noMem mod ⟨rn, ra, rb, true⟩ = false by unfold noMem; rw [k3]; rfl)
          clear h3
          obtain ⟨dd, hdd⟩ : ∃ dd, dispsOf mod rm = dd := ⟨_, rfl⟩
          have hd3 : dd = 0 ∨ dd = 1 ∨ dd = 2 := by rw [← hdd]; exact disps3 _ _
          have HD := Lib.hid hdd
          rcases hd3 with rfl | rfl | rfl
          · have hz := E4.out rfl hdd
            subst hz
            clear hdd
            as_aux_lemma => (go_wp2_with (go_at_call 44; refine (disps_any5 _ _ _).mono ?_; rw [HD.out]; rintro e w' ⟨rfl, rfl⟩); go_meet; exact ⟨rfl, HN.out⟩)
          · have HF := Lib.hid (E5.out rfl hdd)
            clear hdd
            as_aux_lemma => (go_wp2_with (first | (go_at_call 44; refine (disps_any5 _ _ _).mono ?_; rw [HD.out]; rintro e w' ⟨rfl, rfl⟩) | (go_at_call 96; refine (fits_any1 _ _ w4.1 w4.2).mono ?_; rw [HF.out]; rintro e w' ⟨rfl, rfl⟩)); go_meet; exact ⟨rfl, HN.out⟩)
          · clear hdd
            as_aux_lemma => (go_wp2_with (go_at_call 44; refine (disps_any5 _ _ _).mono ?_; rw [HD.out]; rintro e w' ⟨rfl, rfl⟩); go_meet; exact ⟨rfl, HN.out⟩)
    case rest =>
      obtain ⟨rfl, hno⟩ := hcut
      have HNO := Lib.hid hno
      clear hno
      go_wp2_with fail
      refine (bytes_any4 _ _).mono ?_
      have HT := Lib.hid (show tailOf ⟨rn, ra, rb, rmod⟩ = if immOf ra = 0 then rb else ra from rfl)
      generalize immOf ra = ia at HT ⊢
      rintro e w3' ⟨rfl, rfl⟩; dsimp only
      go_upto_if 152 with fail
      go_cut [7] (fun s7 wx => W1 = wx ∧ s7 = .int .i64 (tailOf ⟨rn, ra, rb, rmod⟩))
      case first =>
        by_cases hz : ia = 0
        · subst hz
          as_aux_lemma => (go_wp2_with fail; go_meet; rw [HT.out, if_pos trivial]; exact ⟨rfl, rfl⟩)
        · have kz : (ia == 0) = false := by simp [hz]
          have HZ := Lib.hid hz
          clear hz
          as_aux_lemma => (go_wp2_with fail; go_meet; rw [HT.out, if_neg HZ.out]; exact ⟨rfl, rfl⟩)
      case rest =>
        obtain ⟨rfl, rfl⟩ := hcut
        clear HT
        generalize tailOf ⟨rn, ra, rb, rmod⟩ = k at E6 ⊢
        by_cases k6 : k = 6
        · subst k6
          have ht := E6.out
          simp only [tailB, if_true, Option.getD_some, Bool.and_eq_true, Bool.or_eq_true, decide_eq_true_eq, beq_iff_eq, bne_iff_ne, ne_eq] at ht
          obtain ⟨⟨t1, t2⟩, t3⟩ := ht
          subst t2
          by_cases ha : rn = 70
          · have n1 : (rn != 70) = false := by simp [ha]
            have hi : imm = 10 := by rcases t3 with t3 | t3; exact absurd ha t3.1; exact t3
            subst hi
            clear ha t3
            as_aux_lemma => (go_wp2_with fail; go_ret; rw [HNO.out]; exact ⟨rfl, HB1.out⟩)
          · have n1 : (rn != 70) = true := by simp [ha]
            by_cases hb : rn = 71
            · have n2 : (rn != 71) = false := by simp [hb]
              have hi : imm = 10 := by rcases t3 with t3 | t3; exact absurd hb t3.2; exact t3
              subst hi
              clear ha hb t3
              as_aux_lemma => (go_wp2_with fail; go_ret; rw [HNO.out]; exact ⟨rfl, HB1.out⟩)
            · have n2 : (rn != 71) = true := by simp [hb]
              clear ha hb t3
              as_aux_lemma => (go_wp2_with fail; go_ret; rw [HNO.out]; exact ⟨rfl, HB1.out⟩)
        · by_cases k8 : k = 8 ∨ k = 9
          · have ht := E6.out
            rw [tailB, if_neg k6, if_pos k8] at ht
            simp only [Option.getD_some, Bool.and_eq_true, beq_iff_eq] at ht
            obtain ⟨t1, t2⟩ := ht
            subst t2
            have HF := Lib.hid t1
            clear t1
            rcases k8 with rfl | rfl
            · as_aux_lemma => (go_wp2_with (go_at_call 96; refine (fits_any1 _ _ w5.1 w5.2).mono ?_; rw [HF.out]; rintro e w' ⟨rfl, rfl⟩); go_ret; rw [HNO.out]; exact ⟨rfl, HB1.out⟩)
            · as_aux_lemma => (go_wp2_with (go_at_call 96; refine (fits_any1 _ _ w5.1 w5.2).mono ?_; rw [HF.out]; rintro e w' ⟨rfl, rfl⟩); go_ret; rw [HNO.out]; exact ⟨rfl, HB1.out⟩)
          · by_cases k7 : k = 7 ∨ k = 10 ∨ k = 12 ∨ k = 13
            · have ht := E6.out
              rw [tailB, if_neg k6, if_neg k8, if_pos k7] at ht
              simp only [Option.getD_some, beq_iff_eq] at ht
              subst ht
              clear k6 k8
              rcases k7 with rfl | rfl | rfl | rfl
              · as_aux_lemma => (go_wp2_with fail; go_ret; rw [HNO.out]; exact ⟨rfl, HB1.out⟩)
              · as_aux_lemma => (go_wp2_with fail; go_ret; rw [HNO.out]; exact ⟨rfl, HB1.out⟩)
              · as_aux_lemma => (go_wp2_with fail; go_ret; rw [HNO.out]; exact ⟨rfl, HB1.out⟩)
              · as_aux_lemma => (go_wp2_with fail; go_ret; rw [HNO.out]; exact ⟨rfl, HB1.out⟩)
            · by_cases k11 : k = 11
              · subst k11
                as_aux_lemma => (go_wp2_with fail; go_ret; rw [HNO.out]; exact ⟨rfl, HB1.out⟩)
              · have ht := E6.out
                rw [tailB, if_neg k6, if_neg k8, if_neg k7, if_neg k11] at ht
                simp only [Option.getD_none, Bool.and_eq_true, beq_iff_eq] at ht
                obtain ⟨t1, t2⟩ := ht
                subst t1 t2
                have q1 : (k == 6) = false := by simp; omega
                have q2 : (k == 8) = false := by simp; omega
                have q3 : (k == 9) = false := by simp; omega
                have q4 : (k == 7) = false := by simp; omega
                have q5 : (k == 10) = false := by simp; omega
                have q6 : (k == 12) = false := by simp; omega
                have q7 : (k == 13) = false := by simp; omega
                have q8 : (k == 11) = false := by simp; omega
                clear k6 k8 k7 k11
                as_aux_lemma => (go_wp2_with fail; go_ret; rw [HNO.out]; exact ⟨rfl, HB1.out⟩)
end Go.Proofs.YtcglkefaopgjeaaGreatDoor

/- The reference's instruction near any numbers: walk. -/
namespace Go.Proofs.YtcglkefaopgjeaaGreatDoor
set_option linter.unusedSimpArgs false
set_option linter.unusedVariables false
open Go.RowKit

theorem setI_row {w : World} {g : Nat} {a0 a1 a2 a3 a4 a5 a6 a7 a8 a9 : Value} (h : Row w g #[a0, a1, a2, a3, a4, a5, a6, a7, a8, a9] 30) (j : Nat) (v : Value) : Row (w.setCell ⟨g, j, none⟩ v) g (#[a0, a1, a2, a3, a4, a5, a6, a7, a8, a9].setIfInBounds j v) 30 := h.setCell j v
/-- What Near has at its steps: its argument's box, its result's, its row's. -/
structure NearAt (w wx : World) (x i : Inst) (r : IRow) (kr : Nat) : Prop where
  b : Below w.heap.size w wx
  x : Row wx w.heap.size x.cells 30
  i : Row wx (w.heap.size + 1) i.cells 30
  r : Row wx kr #[.int .i64 r.name, .int .i64 r.a, .int .i64 r.b, .bool r.mod] 47
  k : w.heap.size + 1 < kr
theorem NearAt.set {w wx : World} {x i : Inst} {r : IRow} {kr : Nat} (h : NearAt w wx x i r kr) (j : Nat) (v : Value) (i2 : Inst) (he : i.cells.setIfInBounds j v = i2.cells) : NearAt w (wx.setCell ⟨w.heap.size + 1, j, none⟩ v) x i2 r kr :=
  ⟨h.b.setCell (p := ⟨w.heap.size + 1, j, none⟩) (Nat.le_succ _) _, h.x.setCell_other _ _ (by simp), he ▸ h.i.setCell j v, h.r.setCell_other _ _ (by have := h.k; simp; omega), h.k⟩
theorem NearAt.on {w wx wy : World} {x i : Inst} {r : IRow} {kr : Nat} (h : NearAt w wx x i r kr) (hb : Below wx.heap.size wx wy) : NearAt w wy x i r kr :=
  ⟨h.b.trans (hb.mono h.b.size), Below.row hb h.x h.x.lt, Below.row hb h.i h.i.lt, Below.row hb h.r h.r.lt, h.k⟩
theorem NearAt.drew {w wx : World} {x i : Inst} {r : IRow} {kr : Nat} (h : NearAt w wx x i r kr) : NearAt w wx.drew x i r kr := h.on (Below.refl _ _).drew

theorem i64_and3 (n : Int) : bits .and .i64 n 3 = n % 4 := by
  have h7 : (BitVec.ofInt 64 3).toNat = 2 ^ 2 - 1 := by decide
  have key : (BitVec.ofInt 64 n &&& BitVec.ofInt 64 3).toNat = (n % ((2 ^ 64 : Nat) : Int)).toNat % 2 ^ 2 := by
    rw [BitVec.toNat_and, BitVec.toNat_ofInt, h7, Nat.and_two_pow_sub_one_eq_mod]
  show IntKind.i64.wrap ((BitVec.ofInt 64 n &&& BitVec.ofInt 64 3).toNat : Nat) = n % 4
  rw [key, IntKind.wrap_i64]
  omega
theorem i64_and1 (n : Int) : bits .and .i64 n 1 = n % 2 := by
  have h7 : (BitVec.ofInt 64 1).toNat = 2 ^ 1 - 1 := by decide
  have key : (BitVec.ofInt 64 n &&& BitVec.ofInt 64 1).toNat = (n % ((2 ^ 64 : Nat) : Int)).toNat % 2 ^ 1 := by
    rw [BitVec.toNat_and, BitVec.toNat_ofInt, h7, Nat.and_two_pow_sub_one_eq_mod]
  show IntKind.i64.wrap ((BitVec.ofInt 64 n &&& BitVec.ofInt 64 1).toNat : Nat) = n % 2
  rw [key, IntKind.wrap_i64]
  omega
/-- What begins Near's steps. -/
theorem nearAt_new {w w1 : World} {x i : Inst} (r : IRow) (hb : Below ((w.alloc (.cells x.cells 30)).alloc (.cells i.cells 30)).heap.size ((w.alloc (.cells x.cells 30)).alloc (.cells i.cells 30)) w1) :
    NearAt w (w1.alloc (.cells #[.int .i64 r.name, .int .i64 r.a, .int .i64 r.b, .bool r.mod] 47)) x i r w1.heap.size := by
  have hz := hb.size
  simp only [World.size_alloc] at hz
  have b0 := ((Below.refl w.heap.size w).alloc (Nat.le_refl _) (.cells x.cells 30)).alloc (by simp) (.cells i.cells 30)
  have b1 := b0.trans (hb.mono (by simp; omega))
  exact ⟨b1.alloc b1.size _, (Below.row hb ((Row.new w x.cells 30).alloc _) (by simp; omega)).alloc _, (Below.row hb (Row.new' (by simp)) (by simp)).alloc _, Row.new _ _ _, by omega⟩

set_option maxRecDepth 100000 in
set_option maxHeartbeats 6400000 in
theorem near_any5 (x : Inst) (h : x.kinds) (w : World) : Calls Tryz.prog 14 #[x.val] w fun e w' => e = .returned (nearI x).val ∧ Below w.heap.size w w' := by
  have n0 : ∀ wx, Calls Tryz.prog 43 #[Inst.val ⟨x.lock, 0, 0, x.op, 0, x.reg % 8, 0, 0, 0, 0⟩] wx fun e w' => e = .returned (rowV (instRow x.op (x.reg % 8))) ∧ Below wx.heap.size wx w' := fun wx =>
    row_any5 ⟨x.lock, 0, 0, x.op, 0, x.reg % 8, 0, 0, 0, 0⟩ wx h.op.1 h.op.2 (by dsimp only; omega) (by dsimp only; omega)
  have a7 : bits BinOp.and IntKind.i64 x.reg 7 = x.reg % 8 := i64_and7 _
  have N0 := Lib.hid n0
  have K := Lib.hid h
  obtain ⟨lock, rep, seg, op, mod, reg, rm, disp, imm, sel⟩ := x
  clear n0 h
  dsimp only at a7
  go_enter Tryz.func14, Tryz.ntmps14
  go_wp2_with fail
  refine (N0.out _).mono ?_
  cases hrow : instRow op (reg % 8) with
  | none =>
    have HE := Lib.hid (show nearI ⟨lock, rep, seg, op, mod, reg, rm, disp, imm, sel⟩ = nopI by unfold nearI; dsimp only; rw [hrow])
    clear hrow
    rw [rowV_none]
    rintro e w1 ⟨rfl, hb⟩; dsimp only
    have hr := Below.row hb (Row.new' (w := w.alloc (.cells (Inst.cells ⟨lock, rep, seg, op, mod, reg, rm, disp, imm, sel⟩) 30)) (n := w.heap.size + 1) (cs := (Inst.cells ⟨lock, 0, 0, op, 0, reg % 8, 0, 0, 0, 0⟩)) (t := 30) (by simp)) (by simp)
    have b0 := ((Below.refl w.heap.size w).alloc (Nat.le_refl _) (.cells (Inst.cells ⟨lock, rep, seg, op, mod, reg, rm, disp, imm, sel⟩) 30)).alloc (by simp) (.cells (Inst.cells ⟨lock, 0, 0, op, 0, reg % 8, 0, 0, 0, 0⟩) 30)
    have HB := Lib.hid (b0.trans (hb.mono (by simp; omega)))
    have HR := Lib.hid hr
    have ci := hr.cell
    have fi := hr.frozen
    have li := hr.lt
    clear hb hr b0
    go_wp2_with fail
    refine bodyPost_ret (v := nopI.val) (results_row rfl _ _ _ _ _ _ rfl ((row_inst nopI HR.out).alloc _) Tryz.underlying30 rfl (by kernel_rfl)) rfl ⟨by rw [HE.out], ?_⟩
    refine Below.alloc ?_ (by simp only [World.size_setCell]; exact HB.out.size) _
    repeat (with_reducible refine Below.setCell ?_ (Nat.le_succ _) _)
    exact HB.out
  | some r =>
    have hf := row_fine K.out.op.1 K.out.op.2 (by omega) (by omega) (instRow_some hrow).2
    have HRW := Lib.hid hrow
    have HF := Lib.hid hf
    obtain ⟨rn, ra, rb, rmod⟩ := r
    rw [rowV_some]
    rintro e w1 ⟨rfl, hb⟩; dsimp only
    have HN1 := Lib.hid (nearAt_new (x := ⟨lock, rep, seg, op, mod, reg, rm, disp, imm, sel⟩) (i := ⟨lock, 0, 0, op, 0, reg % 8, 0, 0, 0, 0⟩) ⟨rn, ra, rb, rmod⟩ hb)
    clear hb hrow hf
    go_upto_if 22 with fail
    generalize w1.alloc (.cells #[.int .i64 rn, .int .i64 ra, .int .i64 rb, .bool rmod] 47) = W1 at HN1 ⊢
    generalize w1.heap.size = kr at HN1 ⊢
    have n1 : ¬ kr = w.heap.size + 1 := by have := HN1.out.k; omega
    have n2 : ¬ w.heap.size + 1 = kr := by omega
    have n3 : ¬ kr = w.heap.size := by have := HN1.out.k; omega
    have n4 : ¬ w.heap.size = kr := by omega
    have cx := HN1.out.x.cell; have ci := HN1.out.i.cell; have fi := HN1.out.i.frozen; have li := HN1.out.i.lt; have cr := HN1.out.r.cell; have lr := HN1.out.r.lt
    go_upto_if 26 with fail
    obtain ⟨I2, hI2⟩ : ∃ I : Inst, (⟨lock, 0, 0, op, if rmod then mod % 4 else 0, if rmod then reg % 8 else 0, if rmod then rm % 8 else 0, if rmod then nearDisp (dispsOf (mod % 4) (rm % 8)) disp else 0, 0, 0⟩ : Inst) = I := ⟨_, rfl⟩
    have HI2 := Lib.hid (fun b : Bool => fun e : rmod = b => (e ▸ hI2.symm : I2 = ⟨lock, 0, 0, op, if b then mod % 4 else 0, if b then reg % 8 else 0, if b then rm % 8 else 0, if b then nearDisp (dispsOf (mod % 4) (rm % 8)) disp else 0, 0, 0⟩))
    clear hI2
    go_cut [] (fun wx => NearAt w wx ⟨lock, rep, seg, op, mod, reg, rm, disp, imm, sel⟩ I2 ⟨rn, ra, rb, rmod⟩ kr)
    case first =>
      cases rmod with
      | false =>
        have HI := Lib.hid (HI2.out false rfl)
        clear HI2
        as_aux_lemma => (go_wp2_with fail; go_meet; exact HN1.out.set 5 _ _ (by rw [HI.out]; rfl))
      | true =>
        have HI := HI2.out true rfl
        simp only [if_true] at HI
        clear HI2
        subst HI
        go_upto_region 8 with fail
        go_cut [] (fun wx => NearAt w wx ⟨lock, rep, seg, op, mod, reg, rm, disp, imm, sel⟩ ⟨lock, 0, 0, op, mod % 4, reg % 8, rm % 8, 0, 0, 0⟩ ⟨rn, ra, rb, true⟩ kr)
        case first =>
          have b3 := i64_and3 mod
          have b7 := i64_and7 rm
          have li2 : ¬ W1.heap.size ≤ w.heap.size + 1 := by omega
          have j1 := (HN1.out.set 4 (.int .i64 (mod % 4)) (⟨lock, 0, 0, op, mod % 4, reg % 8, 0, 0, 0, 0⟩ : Inst) rfl).set 6 (.int .i64 (rm % 8)) ⟨lock, 0, 0, op, mod % 4, reg % 8, rm % 8, 0, 0, 0⟩ rfl
          have j2 := (HN1.out.set 6 (.int .i64 (rm % 8)) (⟨lock, 0, 0, op, 0, reg % 8, rm % 8, 0, 0, 0⟩ : Inst) rfl).set 4 (.int .i64 (mod % 4)) ⟨lock, 0, 0, op, mod % 4, reg % 8, rm % 8, 0, 0, 0⟩ rfl
          have J1 := Lib.hid j1.drew
          have J2 := Lib.hid j2.drew
          clear j1 j2
          go_region
          all_goals
            go_wp2_with fail
            go_meet
            first | (with_reducible exact J1.out) | (with_reducible exact J2.out) | exact J1.out | exact J2.out
        case rest =>
          have HN2 := Lib.hid hcut
          clear cx ci fi li cr lr; clear hcut
          have cx := HN2.out.x.cell; have ci := HN2.out.i.cell; have fi := HN2.out.i.frozen; have li := HN2.out.i.lt; have cr := HN2.out.r.cell; have lr := HN2.out.r.lt
          go_wp2_with fail
          refine (disps_any5 _ _ _).mono ?_
          obtain ⟨dd, hdd⟩ : ∃ dd, dispsOf (mod % 4) (rm % 8) = dd := ⟨_, rfl⟩
          have hd3 := disps3 (mod % 4) (rm % 8)
          rw [hdd] at hd3 ⊢
          have HD := Lib.hid (show nearDisp (dispsOf (mod % 4) (rm % 8)) disp = nearDisp dd disp by rw [hdd])
          clear hdd
          rintro e w2 ⟨rfl, rfl⟩; dsimp only
          have k1 := K.out.disp
          rcases hd3 with rfl | rfl | rfl
          · as_aux_lemma => (go_wp2_with fail; go_meet; rw [HD.out]; exact HN2.out)
          · have hx : (disp.tmod 256) = disp % 256 := Int.tmod_eq_emod_of_nonneg k1.1
            as_aux_lemma => (go_wp2_with (go_at_call 45; refine (sign_any1 _ _ (by omega) (by omega)).mono ?_; rintro e w' ⟨rfl, rfl⟩); go_meet; rw [HD.out]; first | exact HN2.out.set 7 _ _ rfl | trace_state)
          · as_aux_lemma => (go_wp2_with fail; go_meet; rw [HD.out]; exact HN2.out.set 7 _ _ rfl)
    case rest =>
      have HN3 := Lib.hid hcut
      clear cx ci fi li cr lr; clear hcut HN1
      obtain ⟨k, hk⟩ : ∃ k, tailOf ⟨rn, ra, rb, rmod⟩ = k := ⟨_, rfl⟩
      obtain ⟨nr, hnr⟩ : ∃ n, repsOf rn = n := ⟨_, rfl⟩
      obtain ⟨A, B2, C, D, hI, hJ⟩ : ∃ A B C D : Int, I2 = ⟨lock, 0, 0, op, A, B, C, D, 0, 0⟩ ∧ nearR ⟨lock, rep, seg, op, mod, reg, rm, disp, imm, sel⟩ ⟨rn, ra, rb, rmod⟩ = ⟨lock, nearRep rep nr, nearSeg seg, op, A, B, C, D, nearImm k rn imm, nearSel k sel⟩ := ⟨_, _, _, _, HI2.out rmod rfl, by rw [← hk, ← hnr]; rfl⟩
      subst hI
      have HK := Lib.hid (show (if immOf ra = 0 then rb else ra) = k from hk)
      have HJ := Lib.hid hJ
      clear hk hJ HI2
      have HREP := Lib.hid (show ∀ w, Calls Tryz.prog 47 #[.int .i64 rn] w fun e w' => e = .returned (.int .i64 nr) ∧ w = w' by
        intro w
        have := repeats_any4 rn.toNat (by have := HF.out.n1; dsimp only at this; omega) w
        rwa [Int.toNat_of_nonneg (by have := HF.out.n0; dsimp only at this; omega), hnr] at this)
      have HNR := Lib.hid (hnr ▸ reps3 rn : nr = 0 ∨ nr = 1 ∨ nr = 2)
      clear hnr
      have cx := HN3.out.x.cell; have ci := HN3.out.i.cell; have fi := HN3.out.i.frozen; have li := HN3.out.i.lt; have cr := HN3.out.r.cell; have lr := HN3.out.r.lt
      go_wp2_with fail
      refine (bytes_any4 _ _).mono ?_
      generalize immOf ra = ia at HK ⊢
      rintro e w3' ⟨rfl, rfl⟩; dsimp only
      go_upto_if 58 with fail
      go_cut [5] (fun s5 wx => wc = wx ∧ s5 = .int .i64 k)
      case first =>
        by_cases hz : ia = 0
        · have kz : (ia == 0) = true := by simp [hz]
          have HZ := Lib.hid (show rb = k by have := HK.out; rwa [if_pos hz] at this)
          clear hz HK
          as_aux_lemma => (go_wp2_with fail; go_meet; rw [HZ.out]; exact ⟨rfl, rfl⟩)
        · have kz : (ia == 0) = false := by simp [hz]
          have HZ := Lib.hid (show ra = k by have := HK.out; rwa [if_neg hz] at this)
          clear hz HK
          as_aux_lemma => (go_wp2_with fail; go_meet; rw [HZ.out]; exact ⟨rfl, rfl⟩)
      case rest =>
      obtain ⟨rfl, rfl⟩ := hcut
      clear HK
      go_upto_block 1 with fail
      obtain ⟨NI, hNI⟩ : ∃ n, nearImm k rn imm = n := ⟨_, rfl⟩
      obtain ⟨NS, hNS⟩ : ∃ n, nearSel k sel = n := ⟨_, rfl⟩
      rw [hNI, hNS] at HJ
      have HNI0 := Lib.hid hNI
      have HNS0 := Lib.hid hNS
      clear hNI hNS
      go_cut [] (fun wx => NearAt w wx ⟨lock, rep, seg, op, mod, reg, rm, disp, imm, sel⟩ ⟨lock, 0, 0, op, A, B2, C, D, NI, NS⟩ ⟨rn, ra, rb, rmod⟩ kr)
      case first =>
        have k5 := K.out.imm
        have k6' := K.out.sel
        dsimp only at k5 k6'
        have hx : (imm.tmod 256) = imm % 256 := Int.tmod_eq_emod_of_nonneg k5.1
        have hNI := HNI0.out
        have hNS := HNS0.out
        clear HNI0 HNS0
        by_cases k6 : k = 6
        · subst k6
          have hs0 : NS = 0 := by rw [← hNS]; rfl
          subst hs0
          have HNI := Lib.hid (show (if rn = 70 ∨ rn = 71 then 10 else imm % 256) = NI from hNI)
          clear hNI hNS
          by_cases ha : rn = 70
          · have q1 : (rn == 70) = true := by simp [ha]
            have HZ := Lib.hid (show 10 = NI by have := HNI.out; rwa [if_pos (Or.inl ha)] at this)
            clear ha HNI
            as_aux_lemma => (go_wp2_with fail; go_meet; rw [← HZ.out]; exact (HN3.out.set 8 (.int .u16 (imm % 256)) ⟨lock, 0, 0, op, A, B2, C, D, imm % 256, 0⟩ rfl).set 8 _ _ rfl)
          · have q1 : (rn == 70) = false := by simp [ha]
            by_cases hb : rn = 71
            · have q2 : (rn == 71) = true := by simp [hb]
              have HZ := Lib.hid (show 10 = NI by have := HNI.out; rwa [if_pos (Or.inr hb)] at this)
              clear ha hb HNI
              as_aux_lemma => (go_wp2_with fail; go_meet; rw [← HZ.out]; exact (HN3.out.set 8 (.int .u16 (imm % 256)) ⟨lock, 0, 0, op, A, B2, C, D, imm % 256, 0⟩ rfl).set 8 _ _ rfl)
            · have q2 : (rn == 71) = false := by simp [hb]
              have HZ := Lib.hid (show imm % 256 = NI by have := HNI.out; rwa [if_neg (by rintro (e | e); exact ha e; exact hb e)] at this)
              clear ha hb HNI
              as_aux_lemma => (go_wp2_with fail; go_meet; rw [← HZ.out]; exact HN3.out.set 8 _ _ rfl)
        · by_cases k8 : k = 8 ∨ k = 9
          · have hs0 : NS = 0 := by rw [← hNS]; unfold nearSel; rw [if_neg (by omega)]
            have HZ := Lib.hid (show signW (imm % 256) = NI by rw [← hNI]; unfold nearImm; rw [if_neg k6, if_pos k8])
            subst hs0
            clear hNI hNS k6
            rcases k8 with rfl | rfl
            · as_aux_lemma => (go_wp2_with (go_at_call 45; refine (sign_any1 _ _ (by omega) (by omega)).mono ?_; rintro e w' ⟨rfl, rfl⟩); go_meet; rw [← HZ.out]; exact HN3.out.set 8 _ _ rfl)
            · as_aux_lemma => (go_wp2_with (go_at_call 45; refine (sign_any1 _ _ (by omega) (by omega)).mono ?_; rintro e w' ⟨rfl, rfl⟩); go_meet; rw [← HZ.out]; exact HN3.out.set 8 _ _ rfl)
          · by_cases k7 : k = 7 ∨ k = 10 ∨ k = 12 ∨ k = 13
            · have hs0 : NS = 0 := by rw [← hNS]; unfold nearSel; rw [if_neg (by omega)]
              have hi0 : NI = imm := by rw [← hNI]; unfold nearImm; rw [if_neg k6, if_neg k8, if_pos k7]
              subst hs0
              subst hi0
              clear hNI hNS k6 k8
              rcases k7 with rfl | rfl | rfl | rfl
              · as_aux_lemma => (go_wp2_with fail; go_meet; exact HN3.out.set 8 _ _ rfl)
              · as_aux_lemma => (go_wp2_with fail; go_meet; exact HN3.out.set 8 _ _ rfl)
              · as_aux_lemma => (go_wp2_with fail; go_meet; exact HN3.out.set 8 _ _ rfl)
              · as_aux_lemma => (go_wp2_with fail; go_meet; exact HN3.out.set 8 _ _ rfl)
            · by_cases k11 : k = 11
              · subst k11
                have hs0 : NS = sel := by rw [← hNS]; rfl
                have hi0 : NI = imm := by rw [← hNI]; rfl
                subst hs0
                subst hi0
                have j1 := (HN3.out.set 8 (.int .u16 NI) (⟨lock, 0, 0, op, A, B2, C, D, NI, 0⟩ : Inst) rfl).set 9 (.int .u16 NS) ⟨lock, 0, 0, op, A, B2, C, D, NI, NS⟩ rfl
                have j2 := (HN3.out.set 9 (.int .u16 NS) (⟨lock, 0, 0, op, A, B2, C, D, 0, NS⟩ : Inst) rfl).set 8 (.int .u16 NI) ⟨lock, 0, 0, op, A, B2, C, D, NI, NS⟩ rfl
                have J1 := Lib.hid j1.drew
                have J2 := Lib.hid j2.drew
                clear j1 j2 hNI hNS
                have li2 : ¬ wc.heap.size ≤ w.heap.size + 1 := by omega
                go_wp2_with fail
                go_region
                all_goals
                  go_wp2_with fail
                  go_meet
                  first | (with_reducible exact J1.out) | (with_reducible exact J2.out) | exact J1.out | exact J2.out
              · have hs0 : NS = 0 := by rw [← hNS]; unfold nearSel; rw [if_neg k11]
                have hi0 : NI = 0 := by rw [← hNI]; unfold nearImm; rw [if_neg k6, if_neg k8, if_neg k7, if_neg k11]
                subst hs0
                subst hi0
                have q1 : (k == 6) = false := by simp; omega
                have q2 : (k == 8) = false := by simp; omega
                have q3 : (k == 9) = false := by simp; omega
                have q4 : (k == 7) = false := by simp; omega
                have q5 : (k == 10) = false := by simp; omega
                have q6 : (k == 12) = false := by simp; omega
                have q7 : (k == 13) = false := by simp; omega
                have q8 : (k == 11) = false := by simp; omega
                clear k6 k8 k7 k11 hNI hNS
                as_aux_lemma => (go_wp2_with fail; go_meet; exact HN3.out)
      case rest =>
      have HN4 := Lib.hid hcut
      clear cx ci fi li cr lr; clear hcut HN3 HNI0 HNS0
      have cx := HN4.out.x.cell; have ci := HN4.out.i.cell; have fi := HN4.out.i.frozen; have li := HN4.out.i.lt; have cr := HN4.out.r.cell; have lr := HN4.out.r.lt
      go_wp2_with fail
      refine (HREP.out _).mono ?_
      rintro e w4' ⟨rfl, rfl⟩; dsimp only
      clear HREP
      have b3 := i64_and3 rep
      have b1 := i64_and1 rep
      have b7 := i64_and7 seg
      go_upto_region 33 with fail
      obtain ⟨bD, hbD⟩ : ∃ b, decide (0 < nr ∧ 0 < rep % 4) = b := ⟨_, rfl⟩
      have HBD := Lib.hid hbD
      clear hbD
      go_cut [112] (fun s112 wx => wc = wx ∧ s112 = .bool bD)
      case first =>
        by_cases q1 : 0 < nr
        · by_cases q2 : 0 < rep % 4
          · have HZ := Lib.hid (show true = bD by rw [← HBD.out]; exact (decide_eq_true ⟨q1, q2⟩).symm)
            as_aux_lemma => (go_wp2_with fail; go_meet; rw [← HZ.out]; exact ⟨rfl, rfl⟩)
          · have HZ := Lib.hid (show false = bD by rw [← HBD.out]; exact (decide_eq_false (fun e => q2 e.2)).symm)
            as_aux_lemma => (go_wp2_with fail; go_meet; rw [← HZ.out]; exact ⟨rfl, rfl⟩)
        · have HZ := Lib.hid (show false = bD by rw [← HBD.out]; exact (decide_eq_false (fun e => q1 e.1)).symm)
          as_aux_lemma => (go_wp2_with fail; go_meet; rw [← HZ.out]; exact ⟨rfl, rfl⟩)
      case rest =>
      obtain ⟨rfl, rfl⟩ := hcut
      go_upto_if 112 with fail
      obtain ⟨NR, hNR⟩ : ∃ n, nearRep rep nr = n := ⟨_, rfl⟩
      rw [hNR] at HJ
      have HNR0 := Lib.hid hNR
      clear hNR
      go_cut [] (fun wx => NearAt w wx ⟨lock, rep, seg, op, mod, reg, rm, disp, imm, sel⟩ ⟨lock, NR, 0, op, A, B2, C, D, NI, NS⟩ ⟨rn, ra, rb, rmod⟩ kr)
      case first =>
        cases bD with
        | false =>
          have HZ := Lib.hid (show 0 = NR by rw [← HNR0.out]; unfold nearRep; rw [if_neg (of_decide_eq_false HBD.out)])
          clear HNR0 HBD
          as_aux_lemma => (go_wp2_with fail; go_meet; rw [← HZ.out]; exact HN4.out)
        | true =>
          have hN : (if nr = 2 ∧ rep % 2 = 1 then 1 else 2) = NR := by rw [← HNR0.out]; unfold nearRep; rw [if_pos (of_decide_eq_true HBD.out)]
          clear HNR0 HBD
          by_cases q1 : nr = 2
          · by_cases q2 : rep % 2 = 1
            · have HZ := Lib.hid (show 1 = NR by rwa [if_pos ⟨q1, q2⟩] at hN)
              have p1 : (nr == 2) = true := by simp [q1]
              have p2 : (rep % 2 == 1) = true := by simp [q2]
              clear q1 q2 hN
              as_aux_lemma => (go_wp2_with fail; go_meet; rw [← HZ.out]; exact (HN4.out.set 1 (.int .i64 2) ⟨lock, 2, 0, op, A, B2, C, D, NI, NS⟩ rfl).set 1 _ _ rfl)
            · have HZ := Lib.hid (show 2 = NR by rwa [if_neg (fun e => q2 e.2)] at hN)
              have p1 : (nr == 2) = true := by simp [q1]
              have p2 : (rep % 2 == 1) = false := by simp [q2]
              clear q1 q2 hN
              as_aux_lemma => (go_wp2_with fail; go_meet; rw [← HZ.out]; exact (HN4.out.set 1 (.int .i64 2) ⟨lock, 2, 0, op, A, B2, C, D, NI, NS⟩ rfl))
          · have HZ := Lib.hid (show 2 = NR by rwa [if_neg (fun e => q1 e.1)] at hN)
            have p1 : (nr == 2) = false := by simp [q1]
            clear q1 hN
            as_aux_lemma => (go_wp2_with fail; go_meet; rw [← HZ.out]; exact (HN4.out.set 1 (.int .i64 2) ⟨lock, 2, 0, op, A, B2, C, D, NI, NS⟩ rfl))
      case rest =>
      have HN5 := Lib.hid hcut
      clear cx ci fi li cr lr; clear hcut HN4 HNR0
      have cx := HN5.out.x.cell; have ci := HN5.out.i.cell; have fi := HN5.out.i.frozen; have li := HN5.out.i.lt; have cr := HN5.out.r.cell; have lr := HN5.out.r.lt
      go_upto_if 126 with fail
      obtain ⟨SG, hSG⟩ : ∃ n, nearSeg seg = n := ⟨_, rfl⟩
      rw [hSG] at HJ
      have HSG := Lib.hid hSG
      clear hSG
      go_cut [] (fun wx => NearAt w wx ⟨lock, rep, seg, op, mod, reg, rm, disp, imm, sel⟩ ⟨lock, NR, SG, op, A, B2, C, D, NI, NS⟩ ⟨rn, ra, rb, rmod⟩ kr)
      case first =>
        by_cases q1 : seg % 8 ≤ 4
        · have HZ := Lib.hid (show seg % 8 = SG by rw [← HSG.out]; unfold nearSeg; rw [if_pos q1])
          clear HSG
          as_aux_lemma => (go_wp2_with fail; go_meet; rw [← HZ.out]; exact HN5.out.set 2 _ _ rfl)
        · have HZ := Lib.hid (show 0 = SG by rw [← HSG.out]; unfold nearSeg; rw [if_neg q1])
          clear HSG
          as_aux_lemma => (go_wp2_with fail; go_meet; rw [← HZ.out]; exact HN5.out)
      case rest =>
      have HN6 := Lib.hid hcut
      clear cx ci fi li cr lr; clear hcut HN5 HSG b3 b1 b7
      have cx := HN6.out.x.cell; have ci := HN6.out.i.cell; have fi := HN6.out.i.frozen; have li := HN6.out.i.lt; have cr := HN6.out.r.cell; have lr := HN6.out.r.lt
      have hny := nearly_near ⟨lock, rep, seg, op, mod, reg, rm, disp, imm, sel⟩ K.out ⟨rn, ra, rb, rmod⟩
      have hop : (nearR ⟨lock, rep, seg, op, mod, reg, rm, disp, imm, sel⟩ ⟨rn, ra, rb, rmod⟩).op = op := rfl
      have hrw2 : instRow (nearR ⟨lock, rep, seg, op, mod, reg, rm, disp, imm, sel⟩ ⟨rn, ra, rb, rmod⟩).op (nearR ⟨lock, rep, seg, op, mod, reg, rm, disp, imm, sel⟩ ⟨rn, ra, rb, rmod⟩).reg = some ⟨rn, ra, rb, rmod⟩ := by
        show instRow op (if rmod then reg % 8 else 0) = some ⟨rn, ra, rb, rmod⟩
        cases hm : rmod with
        | true => rw [if_pos rfl, ← hm]; exact HRW.out
        | false => rw [if_neg (by decide), ← hm]; exact instRow_alone K.out.op.1 K.out.op.2 (by omega) (by omega) HRW.out hm
      have hmay := mayB_nearly _ _ hny hrw2 HF.out.a20
      have hcall := fun w => may_any5 _ _ hny hrw2 w
      have hnear : nearI ⟨lock, rep, seg, op, mod, reg, rm, disp, imm, sel⟩ = if (!noMem (nearR ⟨lock, rep, seg, op, mod, reg, rm, disp, imm, sel⟩ ⟨rn, ra, rb, rmod⟩).mod ⟨rn, ra, rb, rmod⟩) = true then nearR ⟨lock, rep, seg, op, mod, reg, rm, disp, imm, sel⟩ ⟨rn, ra, rb, rmod⟩ else nopI := by
        unfold nearI
        rw [show instRow op (reg % 8) = some ⟨rn, ra, rb, rmod⟩ from HRW.out]
        dsimp only
        rw [hmay]
      rw [HJ.out] at hcall hnear
      dsimp only at hcall hnear
      have HCALL := Lib.hid hcall
      have HNEAR := Lib.hid hnear
      clear hny hop hrw2 hmay hcall hnear
      go_wp2_with fail
      refine (HCALL.out _).mono ?_
      generalize noMem A ⟨rn, ra, rb, rmod⟩ = nb at HNEAR ⊢
      rintro e w5 ⟨rfl, hb⟩; dsimp only
      have HN7 := Lib.hid (HN6.out.on hb)
      clear cx ci fi li cr lr; clear hb HCALL
      have cx := HN7.out.x.cell; have ci := HN7.out.i.cell; have fi := HN7.out.i.frozen; have li := HN7.out.i.lt; have cr := HN7.out.r.cell; have lr := HN7.out.r.lt
      cases nb with
      | true =>
        have HE := Lib.hid (show nearI ⟨lock, rep, seg, op, mod, reg, rm, disp, imm, sel⟩ = nopI from HNEAR.out)
        clear HNEAR
        go_wp2_with fail
        refine bodyPost_ret (v := nopI.val) (results_row rfl _ _ _ _ _ _ rfl (row_inst nopI HN7.out.i) Tryz.underlying30 rfl (by kernel_rfl)) rfl ⟨by rw [HE.out], ?_⟩
        repeat (with_reducible refine Below.setCell ?_ (Nat.le_succ _) _)
        exact HN7.out.b
      | false =>
        have HE := Lib.hid (show nearI ⟨lock, rep, seg, op, mod, reg, rm, disp, imm, sel⟩ = ⟨lock, NR, SG, op, A, B2, C, D, NI, NS⟩ from HNEAR.out)
        clear HNEAR
        go_wp2_with fail
        refine bodyPost_ret (v := Inst.val ⟨lock, NR, SG, op, A, B2, C, D, NI, NS⟩) (results_row rfl _ _ _ _ _ _ rfl (row_inst ⟨lock, NR, SG, op, A, B2, C, D, NI, NS⟩ HN7.out.i) Tryz.underlying30 rfl (by kernel_rfl)) rfl ⟨by rw [HE.out], ?_⟩
        repeat (with_reducible refine Below.setCell ?_ (Nat.le_succ _) _)
        exact HN7.out.b
end Go.Proofs.YtcglkefaopgjeaaGreatDoor

/- What the reference's Put has at its steps: appended bytes, words' bytes. -/
namespace Go.Proofs.YtcglkefaopgjeaaGreatDoor
set_option linter.unusedSimpArgs false
set_option linter.unusedVariables false
open Go.RowKit

def bytesV (l : List Int) : List Value := l.map fun x => .int .u8 x
theorem bytesV_app (a b : List Int) : bytesV (a ++ b) = bytesV a ++ bytesV b := by simp [bytesV]
theorem bytesV_len (a : List Int) : (bytesV a).length = a.length := by simp [bytesV]
/-- What Put has at its steps. -/
structure PutAt (w wx : World) (i : Inst) (r : IRow) (kr : Nat) (v : Value) (l : List Int) : Prop where
  b : Below w.heap.size w wx
  i : Row wx w.heap.size i.cells 30
  r : Row wx kr #[.int .i64 r.name, .int .i64 r.a, .int .i64 r.b, .bool r.mod] 47
  k : w.heap.size < kr
  o : wx.ownsRow (kr + 1) 5 1 v l.length (bytesV l)
theorem PutAt.on {w wx wy : World} {i : Inst} {r : IRow} {kr : Nat} {v : Value} {l : List Int} (h : PutAt w wx i r kr v l) (hb : Below wx.heap.size wx wy) (ho : wy.ownsRow (kr + 1) 5 1 v l.length (bytesV l)) : PutAt w wy i r kr v l :=
  ⟨h.b.trans (hb.mono h.b.size), Below.row hb h.i h.i.lt, Below.row hb h.r h.r.lt, h.k, ho⟩
theorem PutAt.app {w wx w1 : World} {i : Inst} {r : IRow} {kr : Nat} {v v' : Value} {l l2 : List Int} (h : PutAt w wx i r kr v l) (hown : w1.ownsRow (kr + 1) 5 1 v' (l.length + l2.length) (bytesV l ++ bytesV l2)) (hg : wx.grownBy w1 v.ownBlock) : PutAt w w1 i r kr v' (l ++ l2) := by
  have hk := h.r.lt
  have hob := fun b hb => (h.o.lt b hb).1
  have hbk : Below (kr + 1) wx w1 := Below.grown (Below.refl (kr + 1) wx) hg (by omega) hob
  have hki := h.k
  refine ⟨h.b.trans (hbk.mono (by omega)), Below.row hbk h.i (by omega), Below.row hbk h.r (by omega), h.k, ?_⟩
  rw [bytesV_app, List.length_append]
  exact hown
theorem PutAt.alloc {w wx : World} {i : Inst} {r : IRow} {kr : Nat} {v : Value} {l : List Int} (h : PutAt w wx i r kr v l) (o : Obj) : PutAt w (wx.alloc o) i r kr v l :=
  h.on ((Below.refl _ _).alloc (Nat.le_refl _) _) (h.o.alloc _)
theorem PutAt.drew {w wx : World} {i : Inst} {r : IRow} {kr : Nat} {v : Value} {l : List Int} (h : PutAt w wx i r kr v l) : PutAt w wx.drew i r kr v l :=
  h.on (Below.refl _ _).drew (h.o.drew)
/-- Bytes are appended. -/
theorem wpList_push {ops : Array Oper} {rest : List Oper} {o : Oper} {a : Act} {Q : Exit → Act → World → Prop} (hgd : o.guard = none) (s x : Operand)
    (ho : o.op = .call { callee := .builtin .append, args := #[s, x], argTypes := #[32, 32] }) {w wy : World} {i : Inst} {r : IRow} {kr : Nat} {v : Value} {l : List Int} (hs : a.eval s = v) (h : PutAt w wy i r kr v l)
    (ad : Addr) (m c : Nat) (news : List Int) (hx : a.eval x = .slice (some ad) m c) (hm : news.length = m) (hc : ∀ j, j < m → wy.cell? (ad.add j) = some (.int .u8 (news.getD j 0))) (hl : l.length + m ≤ 100)
    (hq : ∀ v' w', PutAt w w' i r kr v' (l ++ news) → wpList Tryz.prog ops Q rest (a.put o.dst v') w') : wpList Tryz.prog ops Q (o :: rest) a wy := by
  obtain ⟨i0, hi0, hz0, hz1, hz2⟩ := info_parts info_u8
  refine wpList_append_own _ hgd s x 32 ho (kr + 1) 5 i0 _ 1 1 Tryz.underlying32 hi0 hz0 hz1 hz2 rfl (by omega) v l.length (bytesV l) hs h.o ad m c (bytesV news) hx (by rw [bytesV_len, hm]; omega) ?_ ?_ (by unfold maxLen; omega) (by omega) (by have := h.r.lt; omega) ?_
  · intro j u hj
    have hjm : j < news.length := by
      rcases Nat.lt_or_ge j news.length with e | e
      · exact e
      · rw [List.getElem?_eq_none (by rw [bytesV_len]; exact e)] at hj; cases hj
    rw [hc j (by omega)]
    rw [bytesV, List.getElem?_map, List.getElem?_eq_getElem hjm] at hj
    rw [List.getD_eq_getElem?_getD, List.getElem?_eq_getElem hjm]
    exact hj
  · intro u hu
    obtain ⟨y, -, rfl⟩ := List.mem_map.1 hu
    rfl
  · intro v' w' hown hg hat
    refine hq v' w' (h.app ?_ hg)
    rw [hm]
    exact hown
theorem step_push {ops : Array Oper} {o : Oper} {a : Act} {K : Act → World → Prop} {Q : Exit → Act → World → Prop} {E : Prop} (hgd : o.guard = none) (s x : Operand)
    (ho : o.op = .call { callee := .builtin .append, args := #[s, x], argTypes := #[32, 32] }) {w wy : World} {i : Inst} {r : IRow} {kr : Nat} {v : Value} {l : List Int} (h : PutAt w wy i r kr v l) (hs : a.eval s = v)
    (ad : Addr) (m c : Nat) (news : List Int) (hx : a.eval x = .slice (some ad) m c) (hm : news.length = m) (hc : ∀ j, j < m → wy.cell? (ad.add j) = some (.int .u8 (news.getD j 0))) (hl : l.length + m ≤ 100)
    (hq : ∀ v' w', PutAt w w' i r kr v' (l ++ news) → K (a.put o.dst v') w') : if Region.wanted o (yielded ops a.tmps) = true then Oper.wp Tryz.prog o a wy K Q else E := by
  have hw : Region.wanted o (yielded ops a.tmps) = true := by simp [Region.wanted, hgd]
  rw [if_pos hw]
  obtain ⟨i0, hi0, hz0, hz1, hz2⟩ := info_parts info_u8
  refine wp_append_own _ s x 32 ho (kr + 1) 5 i0 _ 1 1 Tryz.underlying32 hi0 hz0 hz1 hz2 rfl (by omega) v l.length (bytesV l) hs h.o ad m c (bytesV news) hx (by rw [bytesV_len, hm]; omega) ?_ ?_ (by unfold maxLen; omega) (by omega) (by have := h.r.lt; omega) ?_
  · intro j u hj
    have hjm : j < news.length := by
      rcases Nat.lt_or_ge j news.length with e | e
      · exact e
      · rw [List.getElem?_eq_none (by rw [bytesV_len]; exact e)] at hj; cases hj
    rw [hc j (by omega)]
    rw [bytesV, List.getElem?_map, List.getElem?_eq_getElem hjm] at hj
    rw [List.getD_eq_getElem?_getD, List.getElem?_eq_getElem hjm]
    exact hj
  · intro u hu
    obtain ⟨y, -, rfl⟩ := List.mem_map.1 hu
    rfl
  · intro v' w' hown hg hat
    refine hq v' w' (h.app ?_ hg)
    rw [hm]
    exact hown
theorem one_cell (wr : World) (x : Int) (j : Nat) (h : j < 1) : (wr.alloc (.cells #[.int .u8 x] 5)).cell? ((⟨wr.heap.size, 0, none⟩ : Addr).add j) = some (.int .u8 ([x].getD j 0)) := by
  obtain rfl : j = 0 := by omega
  exact ((Row.new wr #[.int .u8 x] 5).cell 0).trans rfl

def twoL (x : Int) : List Int := [x % 256, x / 256]
theorem two_cell (W : World) (x : Int) (m j : Nat) (hm : m ≤ 2) (hj : j < m) : (W.alloc (.cells #[.int .u8 (x % 256), .int .u8 (x / 256)] 5)).cell? ((⟨W.heap.size, 0, none⟩ : Addr).add j) = some (.int .u8 (((twoL x).take m).getD j 0)) := by
  have hr := Row.new W #[.int .u8 (x % 256), .int .u8 (x / 256)] 5
  have hj2 : j = 0 ∨ j = 1 := by omega
  have e : (⟨W.heap.size, 0, none⟩ : Addr).add j = ⟨W.heap.size, j, none⟩ := by unfold Addr.add; split <;> simp_all
  rw [e, hr.cell j, List.getD_eq_getElem?_getD, List.getElem?_take, if_pos hj]
  unfold twoL
  rcases hj2 with rfl | rfl <;> rfl
theorem two_at (W W2 : World) (x : Int) (n m j : Nat) (hw : W2 = W.alloc (.cells #[.int .u8 (x % 256), .int .u8 (x / 256)] 5)) (hn : n = W.heap.size) (hm : m ≤ 2) (hj : j < m) : W2.cell? ((⟨n, 0, none⟩ : Addr).add j) = some (.int .u8 (((twoL x).take m).getD j 0)) := by
  subst hw hn
  exact two_cell W x m j hm hj
theorem pre0_le (b : Bool) : (pre0 b).length ≤ 1 := by cases b <;> simp [pre0]
theorem pre1_le (n : Int) : (pre1 n).length ≤ 1 := by unfold pre1; split <;> simp
theorem pre2_le (n : Int) : (pre2 n).length ≤ 1 := by unfold pre2; split <;> simp


abbrev twoC (x : Int) : Array Value := #[.int .u8 (x % 256), .int .u8 (x / 256)]
/-- Words' bytes that lie in rows of their own, beside what Put has. -/
structure PutK (w wx : World) (i : Inst) (r : IRow) (kr : Nat) (v : Value) (l : List Int) (K : List (Nat × Int)) : Prop where
  p : PutAt w wx i r kr v l
  k : ∀ q ∈ K, Row wx q.1 (twoC q.2) 5 ∧ kr + 1 ≤ q.1 ∧ v.ownBlock ≠ some q.1
theorem PutAt.bare {w wx : World} {i : Inst} {r : IRow} {kr : Nat} {v : Value} {l : List Int} (h : PutAt w wx i r kr v l) : PutK w wx i r kr v l [] := ⟨h, fun q hq => by cases hq⟩
theorem PutAt.own_lt {w wx : World} {i : Inst} {r : IRow} {kr : Nat} {v : Value} {l : List Int} (h : PutAt w wx i r kr v l) (b : Nat) (hb : v.ownBlock = some b) : b < wx.heap.size := by
  obtain ⟨_, ⟨rfl, _⟩ | ⟨g, cap, cur, rfl, hg, hgr, _⟩⟩ := h.o
  · cases hb
  · cases hb
    rcases Nat.lt_or_ge g wx.heap.size with e | e
    · exact e
    · rw [Array.getElem?_eq_none e] at hgr; cases hgr
theorem step_two {ops : Array Oper} {o : Oper} {a : Act} {wx : World} {KK : Act → World → Prop} {Q : Exit → Act → World → Prop} {E : Prop} (hg : o.guard = none) (x : Operand)
    (hop : o.op = Op.call { callee := Callee.value (.func 49), args := #[x], argTypes := #[22] }) {w : World} {i : Inst} {r : IRow} {kr : Nat} {v : Value} {l : List Int} {K : List (Nat × Int)} (h : PutK w wx i r kr v l K)
    (n : Int) (n0 : 0 ≤ n) (n1 : n ≤ 65535) (hx : a.eval x = .int .u16 n) (hq : ∀ g w', PutK w w' i r kr v l ((g, n) :: K) → KK (a.put o.dst (.slice (some ⟨g, 0, none⟩) 2 2)) w') :
    if Region.wanted o (yielded ops a.tmps) = true then Oper.wp Tryz.prog o a wx KK Q else E := by
  refine step_calls hg 49 #[x] _ hop own_two #[.int .u16 n] (by simp [hx]) ((two_any5 n n0 n1 wx).mono ?_)
  rintro e w' ⟨rfl, rfl⟩
  refine ⟨_, rfl, hq wx.heap.size _ ⟨h.p.alloc _, ?_⟩⟩
  intro q hq
  rcases List.mem_cons.1 hq with rfl | hq
  · exact ⟨Row.new wx _ _, h.p.r.lt, fun e => Nat.lt_irrefl _ (h.p.own_lt _ e)⟩
  · exact ⟨(h.k q hq).1.alloc _, (h.k q hq).2⟩
theorem push_core {o : Oper} {a : Act} {KK : Act → World → Prop} {Q : Exit → Act → World → Prop} (s x : Operand)
    (ho : o.op = .call { callee := .builtin .append, args := #[s, x], argTypes := #[32, 32] }) {w wy : World} {i : Inst} {r : IRow} {kr : Nat} {v : Value} {l : List Int} {K : List (Nat × Int)} (h : PutK w wy i r kr v l K) (hs : a.eval s = v)
    (g : Nat) (n : Int) (hmem : (g, n) ∈ K) (m c : Nat) (hm : m ≤ 2) (hx : a.eval x = .slice (some ⟨g, 0, none⟩) m c) (hl : l.length ≤ 90)
    (hq : ∀ v' w', PutAt w w' i r kr v' (l ++ (twoL n).take m) → (∀ q ∈ K, Row w' q.1 (twoC q.2) 5) → KK (a.put o.dst v') w') : Oper.wp Tryz.prog o a wy KK Q := by
  obtain ⟨i0, hi0, hz0, hz1, hz2⟩ := info_parts info_u8
  have hlen : ((twoL n).take m).length = m := by simp [twoL]; omega
  have hr := (h.k (g, n) hmem).1
  refine wp_append_own _ s x 32 ho (kr + 1) 5 i0 _ 1 1 Tryz.underlying32 hi0 hz0 hz1 hz2 rfl (by omega) v l.length (bytesV l) hs h.p.o ⟨g, 0, none⟩ m c (bytesV ((twoL n).take m)) hx (by rw [bytesV_len, hlen]; omega) ?_ ?_ (by unfold maxLen; omega) (by omega) (by have := h.p.r.lt; omega) ?_
  · intro j u hj
    have hjm : j < m := by
      rcases Nat.lt_or_ge j m with e | e
      · exact e
      · rw [List.getElem?_eq_none (by rw [bytesV_len, hlen]; exact e)] at hj; cases hj
    have e : (⟨g, 0, none⟩ : Addr).add j = ⟨g, j, none⟩ := by unfold Addr.add; split <;> simp_all
    rw [e, hr.cell j]
    rw [bytesV, List.getElem?_map, List.getElem?_take, if_pos hjm] at hj
    have hj2 : j = 0 ∨ j = 1 := by omega
    rcases hj2 with rfl | rfl <;> exact hj
  · intro u hu
    obtain ⟨y, -, rfl⟩ := List.mem_map.1 hu
    rfl
  · intro v' w' hown hg hat
    refine hq v' w' (h.p.app (by rw [hlen]; exact hown) hg) ?_
    intro q hq2
    have hk := h.k q hq2
    have hb := hg.block q.1 hk.1.lt (fun e => hk.2.2 e.symm)
    exact Row.of_heap (hb.trans hk.1)
theorem step_push0 {ops : Array Oper} {o : Oper} {a : Act} {KK : Act → World → Prop} {Q : Exit → Act → World → Prop} {E : Prop} (hgd : o.guard = none) (s x : Operand)
    (ho : o.op = .call { callee := .builtin .append, args := #[s, x], argTypes := #[32, 32] }) {w wy : World} {i : Inst} {r : IRow} {kr : Nat} {v : Value} {l : List Int} {K : List (Nat × Int)} (h : PutK w wy i r kr v l K) (hs : a.eval s = v)
    (g : Nat) (n : Int) (hmem : (g, n) ∈ K) (m c : Nat) (hm : m ≤ 2) (hx : a.eval x = .slice (some ⟨g, 0, none⟩) m c) (hl : l.length ≤ 90)
    (hq : ∀ v' w', PutAt w w' i r kr v' (l ++ (twoL n).take m) → KK (a.put o.dst v') w') : if Region.wanted o (yielded ops a.tmps) = true then Oper.wp Tryz.prog o a wy KK Q else E := by
  have hw : Region.wanted o (yielded ops a.tmps) = true := by simp [Region.wanted, hgd]
  rw [if_pos hw]
  exact push_core s x ho h hs g n hmem m c hm hx hl (fun v' w' hp _ => hq v' w' hp)
theorem step_push3 {ops : Array Oper} {o : Oper} {a : Act} {KK : Act → World → Prop} {Q : Exit → Act → World → Prop} {E : Prop} (hgd : o.guard = none) (s x : Operand)
    (ho : o.op = .call { callee := .builtin .append, args := #[s, x], argTypes := #[32, 32] }) {w wy : World} {i : Inst} {r : IRow} {kr : Nat} {v : Value} {l : List Int} {K : List (Nat × Int)} (h : PutK w wy i r kr v l K) (hs : a.eval s = v)
    (g : Nat) (n : Int) (hmem : (g, n) ∈ K) (c : Nat) (hx : a.eval x = .slice (some ⟨g, 0, none⟩) 2 c) (hl : l.length ≤ 90) (hl1 : 1 ≤ l.length)
    (hq : ∀ v' w', PutK w w' i r kr v' (l ++ (twoL n).take 2) K → KK (a.put o.dst v') w') : if Region.wanted o (yielded ops a.tmps) = true then Oper.wp Tryz.prog o a wy KK Q else E := by
  have hw : Region.wanted o (yielded ops a.tmps) = true := by simp [Region.wanted, hgd]
  rw [if_pos hw]
  refine push_core s x ho h hs g n hmem 2 c (by omega) hx hl (fun v' w' hp hr => hq v' w' ⟨hp, fun q hq2 => ⟨hr q hq2, (h.k q hq2).2.1, ?_⟩⟩)
  intro e
  have hro : w'.heap[q.1]? = some (.cells (twoC q.2) 5 (0, 0)) := hr q hq2
  have hlen : (l ++ (twoL n).take 2).length = l.length + 2 := by simp [twoL]
  obtain ⟨_, ⟨_, h0⟩ | ⟨g2, cap, cur, rfl, hg2, hgr, hcn, hcm, hcs, _⟩⟩ := hp.o
  · omega
  · have e2 : g2 = q.1 := by simpa [Value.ownBlock] using e
    subst e2
    rw [hgr] at hro
    have hc : cur = twoC q.2 := by simpa using hro
    rw [hc] at hcs
    simp at hcs
    omega
theorem PutAt.done {w wx : World} {i : Inst} {r : IRow} {kr : Nat} {v : Value} {l : List Int} (h : PutAt w wx i r kr v l) (hl : 0 < l.length) :
    ∃ g cap : Nat, v = .slice (some ⟨g, 0, none⟩) l.length cap ∧ w.heap.size ≤ g ∧ g < wx.heap.size ∧ ∀ k, k < l.length → wx.cell? ⟨g, k, none⟩ = some (.int .u8 (l.getD k 0)) := by
  have ho := h.o
  obtain ⟨_, ⟨_, h0⟩ | ⟨g, cap, cur, rfl, hg, hgr, hcn, hcm, hcs, _⟩⟩ := h.o
  · omega
  · refine ⟨g, cap, rfl, by have := h.k; omega, h.own_lt g rfl, ?_⟩
    intro k hk
    have hcell := ho.cells (g := g) rfl k (.int .u8 (l.getD k 0)) (by
      rw [bytesV, List.getElem?_map, List.getD_eq_getElem?_getD, List.getElem?_eq_getElem hk]; rfl)
    have e : (⟨g, 0, none⟩ : Addr).add k = ⟨g, k, none⟩ := by unfold Addr.add; split <;> simp_all
    rwa [e] at hcell
end Go.Proofs.YtcglkefaopgjeaaGreatDoor

/- The reference's bytes of an instruction: walk. -/
namespace Go.Proofs.YtcglkefaopgjeaaGreatDoor
set_option linter.unusedSimpArgs false
set_option linter.unusedVariables false
open Go.RowKit

theorem PutAt.below {w wx wy : World} {i : Inst} {r : IRow} {kr : Nat} {v : Value} {l : List Int} (h : PutAt w wx i r kr v l) (hb : Below wx.heap.size wx wy) : PutAt w wy i r kr v l :=
  h.on hb (h.o.kept (row := none) ⟨hb.os, hb.tape, hb.output, hb.size, fun k hk _ => hb.block k hk⟩ (by by_cases e : v.ownBlock = none; exact Or.inl e; exact Or.inr e))

set_option maxRecDepth 100000 in
set_option maxHeartbeats 12800000 in
theorem put_any5 (i : Inst) (h : i.good) (w : World) : Calls Tryz.prog 15 #[i.val] w fun e w' => ∃ g cap : Nat, e = .returned (.slice (some ⟨g, 0, none⟩) (putL i).length cap) ∧ Below w.heap.size w w' ∧ w.heap.size ≤ g ∧ g < w'.heap.size ∧ ∀ k, k < (putL i).length → w'.cell? ⟨g, k, none⟩ = some (.int .u8 ((putL i).getD k 0)) := by
  obtain ⟨i0, hi0, hz0, hz1, hz2⟩ := info_parts info_u8
  have hrow : ∃ r, instRow i.op i.reg = some r := by
    have := h.may
    unfold mayB at this
    cases he : instRow i.op i.reg with
    | none => rw [he] at this; cases this
    | some r => exact ⟨r, rfl⟩
  obtain ⟨r, hr⟩ := hrow
  have HRow := Lib.hid (fun w => row_any5 i w h.wf.op.1 h.wf.op.2 h.wf.reg.1 h.wf.reg.2)
  rw [hr] at HRow
  have HL := Lib.hid (show putL i = pre0 i.lock ++ pre1 i.rep ++ pre2 i.seg ++ [i.op] ++ secL i r ++ immL (immsOf r) i.imm i.sel by unfold putL preL; rw [hr]; simp)
  have HG := Lib.hid h
  have w1 := h.wf.mod
  have w2 := h.wf.reg
  have w3 := h.wf.rm
  have w4 := h.wf.disp
  have w5 := h.wf.imm
  have w6 := h.wf.sel
  have w7 := h.rep
  have w8 := h.seg
  clear h hr
  obtain ⟨lock, rep, seg, op, mod, reg, rm, disp, imm, sel⟩ := i
  obtain ⟨rn, ra, rb, rmod⟩ := r
  have hi0' := Row.new w #[.bool lock, .int .i64 rep, .int .i64 seg, .int .u8 op, .int .i64 mod, .int .i64 reg, .int .i64 rm, .int .u16 disp, .int .u16 imm, .int .u16 sel] 30
  have HI0 := Lib.hid hi0'
  have HB0 := Lib.hid ((Below.refl w.heap.size w).alloc (Nat.le_refl _) (.cells #[.bool lock, .int .i64 rep, .int .i64 seg, .int .u8 op, .int .i64 mod, .int .i64 reg, .int .i64 rm, .int .u16 disp, .int .u16 imm, .int .u16 sel] 30))
  have xi0 := hi0'.cell
  clear hi0'
  dsimp only at w1 w2 w3 w4 w5 w6 w7 w8
  go_enter Tryz.func15, Tryz.ntmps15
  go_wp2_with fail
  generalize w.alloc (.cells #[.bool lock, .int .i64 rep, .int .i64 seg, .int .u8 op, .int .i64 mod, .int .i64 reg, .int .i64 rm, .int .u16 disp, .int .u16 imm, .int .u16 sel] 30) = W0 at *
  refine (HRow.out _).mono ?_
  rw [rowV_some]
  rintro e w1' ⟨rfl, hb⟩; dsimp only
  have HB1 := Lib.hid ((HB0.out.trans (hb.mono HB0.out.size)).alloc (Nat.le_trans HB0.out.size hb.size) (.cells #[.int .i64 rn, .int .i64 ra, .int .i64 rb, .bool rmod] 47))
  have HI1 := Lib.hid ((Below.row hb HI0.out HI0.out.lt).alloc (.cells #[.int .i64 rn, .int .i64 ra, .int .i64 rb, .bool rmod] 47))
  have HX1 := Lib.hid (Row.new w1' #[.int .i64 rn, .int .i64 ra, .int .i64 rb, .bool rmod] 47)
  have HK1 := Lib.hid (show w.heap.size < w1'.heap.size from Nat.lt_of_lt_of_le HI0.out.lt hb.size)
  clear hb xi0
  have bl0 := pre0_le lock
  have bl1 := pre1_le rep
  have bl2 := pre2_le seg
  go_upto_region 2 with fail
  have hk2 : w1'.heap.size + 1 = (w1'.alloc (.cells #[.int .i64 rn, .int .i64 ra, .int .i64 rb, .bool rmod] 47)).heap.size := by rw [World.size_alloc]
  generalize w1'.alloc (.cells #[.int .i64 rn, .int .i64 ra, .int .i64 rb, .bool rmod] 47) = W1 at HB1 HI1 HX1 hk2 ⊢
  generalize w1'.heap.size = kr at HX1 HK1 hk2 ⊢
  have hm := World.ownsRow_made (base := kr + 1) (e := 5) (size := 1) W1 #[] 0 (by rw [hk2]; exact Nat.le_refl _) (by unfold maxLen; omega) rfl
  have hb2 := HB1.out.alloc HB1.out.size (.cells #[] 5)
  have HP0 := Lib.hid (PutAt.mk (i := ⟨lock, rep, seg, op, mod, reg, rm, disp, imm, sel⟩) (r := ⟨rn, ra, rb, rmod⟩) (l := []) hb2 (HI1.out.alloc _) (HX1.out.alloc _) HK1.out hm)
  have K2 := Lib.hid hk2
  clear hm hb2 hk2
  have ci := HP0.out.i.cell
  have cr := HP0.out.r.cell
  go_upto_if 14 with fail
  generalize W1.alloc (.cells #[] 5) = W2 at HP0 ci cr ⊢
  generalize (Value.slice (some ⟨W1.heap.size, 0, none⟩) 0 0) = v0 at HP0 ⊢
  go_cut [5] (fun s5 wx => PutAt w wx ⟨lock, rep, seg, op, mod, reg, rm, disp, imm, sel⟩ ⟨rn, ra, rb, rmod⟩ kr s5 (pre0 lock))
  case first =>
    cases lock with
    | false => as_aux_lemma => (go_wp2_with fail; go_meet; exact HP0.out)
    | true => as_aux_lemma => (go_wp2_with (at_builtin; go_loud (refine wpList_push rfl _ _ rfl rfl (HP0.out.alloc _) ⟨_, 0, none⟩ 1 1 [240] rfl rfl (one_cell _ _) (by simp <;> omega) ?_; intro v' w1 HPN)); go_wp2_with fail; go_meet; exact HPN)
  case rest =>
  have HP1 := Lib.hid hcut
  clear hcut HP0 ci cr K2
  have ci := HP1.out.i.cell
  have cr := HP1.out.r.cell
  go_upto_if 20 with fail
  go_cut [5] (fun s5 wx => PutAt w wx ⟨lock, rep, seg, op, mod, reg, rm, disp, imm, sel⟩ ⟨rn, ra, rb, rmod⟩ kr s5 (pre0 lock ++ pre1 rep))
  case first =>
    by_cases q : 0 < rep
    · have e1 : IntKind.u8.wrap (wrap64 (241 + rep)) = 241 + rep := by unfold wrap64; rw [IntKind.wrap_u8]; omega
      have e2 : (241 + rep) % 256 = 241 + rep := by omega
      have HQ := Lib.hid (show [241 + rep] = pre1 rep by unfold pre1; rw [if_pos q])
      as_aux_lemma => (go_wp2_with (at_builtin; go_loud (refine wpList_push rfl _ _ rfl rfl (HP1.out.alloc _) ⟨_, 0, none⟩ 1 1 [241 + rep] rfl rfl (one_cell _ _) (by simp <;> omega) ?_; intro v' w1 HPN)); go_wp2_with fail; go_meet; rw [← HQ.out]; exact HPN)
    · have HQ := Lib.hid (show ([] : List Int) = pre1 rep by unfold pre1; rw [if_neg q])
      as_aux_lemma => (go_wp2_with fail; go_meet; rw [← HQ.out, List.append_nil]; exact HP1.out)
  case rest =>
  have HP2 := Lib.hid hcut
  clear hcut HP1 ci cr
  have ci := HP2.out.i.cell
  have cr := HP2.out.r.cell
  go_upto_if 30 with fail
  go_cut [5] (fun s5 wx => PutAt w wx ⟨lock, rep, seg, op, mod, reg, rm, disp, imm, sel⟩ ⟨rn, ra, rb, rmod⟩ kr s5 (pre0 lock ++ pre1 rep ++ pre2 seg))
  case first =>
    by_cases q : 0 < seg
    · have e0 : wrap64 (8 * seg) = 8 * seg := by unfold wrap64; omega
      have e1 : wrap64 (30 + 8 * seg) = 30 + 8 * seg := by unfold wrap64; omega
      have e2 : (30 + 8 * seg) % 256 = 30 + 8 * seg := by omega
      have HQ := Lib.hid (show [30 + 8 * seg] = pre2 seg by unfold pre2; rw [if_pos q])
      as_aux_lemma => (go_wp2_with (at_builtin; go_loud (refine wpList_push rfl _ _ rfl rfl (HP2.out.alloc _) ⟨_, 0, none⟩ 1 1 [30 + 8 * seg] rfl rfl (one_cell _ _) (by simp <;> omega) ?_; intro v' w1 HPN)); go_wp2_with fail; go_meet; rw [← HQ.out]; exact HPN)
    · have HQ := Lib.hid (show ([] : List Int) = pre2 seg by unfold pre2; rw [if_neg q])
      as_aux_lemma => (go_wp2_with fail; go_meet; rw [← HQ.out, List.append_nil]; exact HP2.out)
  case rest =>
  have HP3 := Lib.hid hcut
  clear hcut HP2 ci cr
  have ci := HP3.out.i.cell
  have cr := HP3.out.r.cell
  obtain ⟨L3, hL3⟩ : ∃ l, pre0 lock ++ pre1 rep ++ pre2 seg = l := ⟨_, rfl⟩
  have hlen3 : L3.length ≤ 3 := hL3 ▸ preL_le ⟨lock, rep, seg, op, mod, reg, rm, disp, imm, sel⟩
  rw [hL3] at HP3 HL
  clear hL3
  go_upto_region 9 with fail
  go_cut [5] (fun s5 wx => PutAt w wx ⟨lock, rep, seg, op, mod, reg, rm, disp, imm, sel⟩ ⟨rn, ra, rb, rmod⟩ kr s5 (L3 ++ [op]))
  case first => as_aux_lemma => (go_wp2_with (at_builtin; go_loud (refine wpList_push rfl _ _ rfl rfl (HP3.out.alloc _) ⟨_, 0, none⟩ 1 1 [op] rfl rfl (one_cell _ _) (by simp <;> omega) ?_; intro v' w1 HPN)); go_wp2_with fail; go_meet; exact HPN)
  case rest =>
  have HP4 := Lib.hid hcut
  clear hcut HP3 ci cr
  have ci := HP4.out.i.cell
  have cr := HP4.out.r.cell
  go_upto_if 45 with fail
  have hlen4 := secL_le ⟨lock, rep, seg, op, mod, reg, rm, disp, imm, sel⟩ ⟨rn, ra, rb, rmod⟩
  obtain ⟨L4, hL4⟩ : ∃ l, secL ⟨lock, rep, seg, op, mod, reg, rm, disp, imm, sel⟩ ⟨rn, ra, rb, rmod⟩ = l := ⟨_, rfl⟩
  rw [hL4] at HL hlen4
  have HL4 := Lib.hid hL4
  clear hL4
  go_cut [5] (fun s5 wx => PutAt w wx ⟨lock, rep, seg, op, mod, reg, rm, disp, imm, sel⟩ ⟨rn, ra, rb, rmod⟩ kr s5 (L3 ++ [op] ++ L4))
  case first =>
    cases rmod with
    | false =>
      have HQ := Lib.hid (show ([] : List Int) = L4 by rw [← HL4.out]; rfl)
      as_aux_lemma => (go_wp2_with fail; go_meet; rw [← HQ.out, List.append_nil]; exact HP4.out)
    | true =>
      have HQ := Lib.hid (show (64 * mod + 8 * reg + rm) :: dispL (dispsOf mod rm) disp = L4 by rw [← HL4.out]; rfl)
      clear HL4
      have e0 : wrap64 (64 * mod) = 64 * mod := by unfold wrap64; omega
      have e1 : wrap64 (8 * reg) = 8 * reg := by unfold wrap64; omega
      have e2 : wrap64 (64 * mod + 8 * reg) = 64 * mod + 8 * reg := by unfold wrap64; omega
      have e3 : wrap64 (64 * mod + 8 * reg + rm) = 64 * mod + 8 * reg + rm := by unfold wrap64; omega
      have e4 : (64 * mod + 8 * reg + rm) % 256 = 64 * mod + 8 * reg + rm := by omega
      go_upto_region 11 with fail
      go_cut [5] (fun s5 wx => PutAt w wx ⟨lock, rep, seg, op, mod, reg, rm, disp, imm, sel⟩ ⟨rn, ra, rb, true⟩ kr s5 (L3 ++ [op] ++ [64 * mod + 8 * reg + rm]))
      case first => as_aux_lemma => (go_wp2_with (at_builtin; go_loud (refine wpList_push rfl _ _ rfl rfl (HP4.out.alloc _) ⟨_, 0, none⟩ 1 1 [64 * mod + 8 * reg + rm] rfl rfl (one_cell _ _) (by simp <;> omega) ?_; intro v' w1 HPN)); go_wp2_with fail; go_meet; exact HPN)
      case rest =>
        have HP5 := Lib.hid hcut
        clear hcut HP4 ci cr e0 e1 e2 e3 e4
        have ci := HP5.out.i.cell
        have cr := HP5.out.r.cell
        have li := HP5.out.i.lt
        have lr := HP5.out.r.lt
        have li2 : ¬ w.heap.size = wc.heap.size := Nat.ne_of_lt li
        have li3 : ¬ wc.heap.size = w.heap.size := Ne.symm li2
        go_upto_region 12 with fail
        obtain ⟨d, hd, hd2⟩ : ∃ d : Nat, dispsOf mod rm = (d : Int) ∧ d ≤ 2 := by
          rcases disps3 mod rm with e | e | e <;> rw [e]
          · exact ⟨0, rfl, by omega⟩
          · exact ⟨1, rfl, by omega⟩
          · exact ⟨2, rfl, by omega⟩
        have KD := Lib.hid (fun w => hd ▸ disps_any5 mod rm w)
        have HQ2 := Lib.hid (show [64 * mod + 8 * reg + rm] ++ (twoL disp).take d = L4 by
          rw [← HQ.out, hd]
          have h3 : d = 0 ∨ d = 1 ∨ d = 2 := by omega
          rcases h3 with rfl | rfl | rfl <;> rfl)
        have d1 : (d : Int) ≤ 2 := by omega
        have d3 : (0 : Int) ≤ d := by omega
        have hS := HP5.out.drew.bare
        clear HQ hd
        go_region_law (first | (refine step_two rfl (.tmp 62) rfl (by with_reducible assumption) disp w4.1 w4.2 rfl ?_; intro gs w' hS; have ci := hS.p.i.cell) | (refine step_calls rfl 44 #[.tmp 65, .tmp 67] _ rfl own_disps #[.int .i64 mod, .int .i64 rm] (by simp [Act.eval, Act.put]) ((KD.out _).mono ?_); rintro e w' ⟨rfl, rfl⟩; refine ⟨_, rfl, ?_⟩) | (refine step_push0 rfl (.tmp 60) (.tmp 69) rfl (by with_reducible assumption) (by rfl) _ _ List.mem_cons_self d 2 hd2 rfl (by simp <;> omega) ?_; intro v' w1 HPN))
        all_goals
          go_wp2_with fail
          go_meet
          rw [← HQ2.out, ← List.append_assoc]
          exact HPN
  case rest =>
  have HP6 := Lib.hid hcut
  clear hcut HP4 ci cr
  have hl6 : (L3 ++ [op] ++ L4).length ≤ 8 := by simp; omega
  have hl61 : 1 ≤ (L3 ++ [op] ++ L4).length := by simp <;> omega
  generalize L3 ++ [op] ++ L4 = L6 at HP6 HL hl6 hl61
  clear HL4
  have ci := HP6.out.i.cell
  have cr := HP6.out.r.cell
  go_wp2_with fail
  refine (imms_any5 ⟨rn, ra, rb, rmod⟩ _).mono ?_
  generalize immsOf ⟨rn, ra, rb, rmod⟩ = n at HL ⊢
  rintro e w6' ⟨rfl, hb⟩; dsimp only
  have HP7 := Lib.hid (HP6.out.below hb)
  clear hb ci cr HP6
  have ci := HP7.out.i.cell
  have cr := HP7.out.r.cell
  have cn : n = 1 ∨ n = 2 ∨ n = 4 ∨ (n ≠ 1 ∧ n ≠ 2 ∧ n ≠ 4) := by omega
  rcases cn with rfl | rfl | rfl | ⟨n1, n2, n4⟩
  · have HE := Lib.hid (show putL ⟨lock, rep, seg, op, mod, reg, rm, disp, imm, sel⟩ = L6 ++ (twoL imm).take 1 from HL.out)
    clear HL
    as_aux_lemma => (go_wp2_with (first | (go_at_call 49; refine (two_any5 imm w5.1 w5.2 _).mono ?_; rintro e w' ⟨rfl, rfl⟩) | (at_builtin; go_loud (refine wpList_push rfl _ _ rfl rfl (HP7.out.alloc _) ⟨_, 0, none⟩ 1 2 ((twoL imm).take 1) rfl (by simp [twoL]) (fun j hj => two_at _ _ _ _ _ _ rfl rfl (by omega) hj) (by omega) ?_; intro v' w1 HPN))); obtain ⟨g, cap, hv, hg0, hg1, hc⟩ := HPN.done (by first | omega | (simp <;> omega)); subst hv; go_ret; rw [HE.out]; first | exact ⟨g, cap, rfl, HPN.b, hg0, hg1, hc⟩ | exact ⟨g, ⟨cap, rfl⟩, HPN.b, hg0, hg1, by simpa [List.getD_eq_getElem?_getD] using hc⟩)
  · have HE := Lib.hid (show putL ⟨lock, rep, seg, op, mod, reg, rm, disp, imm, sel⟩ = L6 ++ (twoL imm).take 2 from HL.out)
    clear HL
    as_aux_lemma => (go_wp2_with (first | (go_at_call 49; refine (two_any5 imm w5.1 w5.2 _).mono ?_; rintro e w' ⟨rfl, rfl⟩) | (at_builtin; go_loud (refine wpList_push rfl _ _ rfl rfl (HP7.out.alloc _) ⟨_, 0, none⟩ 2 2 ((twoL imm).take 2) rfl (by simp [twoL]) (fun j hj => two_at _ _ _ _ _ _ rfl rfl (by omega) hj) (by omega) ?_; intro v' w1 HPN))); obtain ⟨g, cap, hv, hg0, hg1, hc⟩ := HPN.done (by first | omega | (simp <;> omega)); subst hv; go_ret; rw [HE.out]; first | exact ⟨g, cap, rfl, HPN.b, hg0, hg1, hc⟩ | exact ⟨g, ⟨cap, rfl⟩, HPN.b, hg0, hg1, by simpa [List.getD_eq_getElem?_getD] using hc⟩)
  · have HE := Lib.hid (show putL ⟨lock, rep, seg, op, mod, reg, rm, disp, imm, sel⟩ = L6 ++ (twoL imm).take 2 ++ (twoL sel).take 2 by rw [List.append_assoc]; exact HL.out)
    clear HL
    have hS := HP7.out.drew.bare
    go_wp2_with fail
    go_region_law (first | (refine step_two rfl (.tmp 88) rfl (by with_reducible assumption) imm w5.1 w5.2 rfl ?_; intro gs w' hS; have ci := hS.p.i.cell) | (refine step_two rfl (.tmp 92) rfl (by with_reducible assumption) sel w6.1 w6.2 rfl ?_; intro gs w' hS; have ci := hS.p.i.cell) | (refine step_push3 rfl (.tmp 86) (.tmp 89) rfl (by with_reducible assumption) (by rfl) _ imm (by first | exact List.mem_cons_self | exact List.mem_cons_of_mem _ List.mem_cons_self) 2 rfl (by omega) (by omega) ?_; intro v' w1 hS; have ci := hS.p.i.cell) | (refine step_push0 rfl (.tmp 90) (.tmp 93) rfl (by with_reducible assumption) (by rfl) _ sel (by first | exact List.mem_cons_self | exact List.mem_cons_of_mem _ List.mem_cons_self) 2 2 (by omega) rfl (by simp [twoL] <;> omega) ?_; intro v' w1 HPN))
    all_goals
      go_wp2_with fail
      obtain ⟨g, cap, hv, hg0, hg1, hc⟩ := HPN.done (by first | omega | (simp <;> omega)); subst hv; go_ret; rw [HE.out]; first | exact ⟨g, cap, rfl, HPN.b, hg0, hg1, hc⟩ | exact ⟨g, ⟨cap, rfl⟩, HPN.b, hg0, hg1, by simpa [List.getD_eq_getElem?_getD] using hc⟩
  · have k1 : (n == 1) = false := by simpa using n1
    have k2 : (n == 2) = false := by simpa using n2
    have k4 : (n == 4) = false := by simpa using n4
    have HE := Lib.hid (show putL ⟨lock, rep, seg, op, mod, reg, rm, disp, imm, sel⟩ = L6 by rw [HL.out, immL, if_neg n1, if_neg n2, if_neg n4, List.append_nil])
    have HPN := HP7.out
    clear HL n1 n2 n4
    as_aux_lemma => (go_wp2_with fail; obtain ⟨g, cap, hv, hg0, hg1, hc⟩ := HPN.done (by first | omega | (simp <;> omega)); subst hv; go_ret; rw [HE.out]; first | exact ⟨g, cap, rfl, HPN.b, hg0, hg1, hc⟩ | exact ⟨g, ⟨cap, rfl⟩, HPN.b, hg0, hg1, by simpa [List.getD_eq_getElem?_getD] using hc⟩)
end Go.Proofs.YtcglkefaopgjeaaGreatDoor
