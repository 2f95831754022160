/- CpuStack: the law's steps, its walk, its row, in one text: each part's own remark says what it proves; conditions: hansom/addr.bases holds its own text. -/
import Derived.Test.YtcglkefaopgjeaaGreatDoorW10
import Derived.Test.YtcglkefaopgjeaaGreatDoorW11
import Derived.Test.YtcglkefaopgjeaaGreatDoorW12

/- What is pushed and popped in the machine that begin makes: plain laws, no walk. -/
namespace Go.Proofs.YtcglkefaopgjeaaGreatDoor
set_option linter.unusedSimpArgs false
set_option linter.unusedVariables false
open Go.RowKit

/-- A sane machine with a stack of its own. -/
structure Stacky (m : Mach) : Prop where
  s : Sane m
  s2 : m.r.s2 = ⟨12544, true⟩
  g4 : m.r.g4.t = false
abbrev memPut (f : Nat → Int) (x y : Nat) (v : Int) : Nat → Int := setF f x y v
def Mach.pushP (m : Mach) (v : Int) : Mach :=
  { m with mem := memPut m.mem (lin 12544 (IntKind.u16.wrap (m.r.g4.v - 2))) (lin 12544 (succW (IntKind.u16.wrap (m.r.g4.v - 2)))) v, r := { m.r with g4 := ⟨IntKind.u16.wrap (m.r.g4.v - 2), false⟩ } }
theorem plain_clean (m : Mach) (x : V) (h : x.t = false) : m.plain x = m := by unfold Mach.plain; rw [h]; rfl
theorem setT_zero (x y : Nat) : setT (fun _ => 0) x y false = fun _ => 0 := by
  funext k
  show upd (upd (fun _ => (0 : Int)) x 0) y 0 k = 0
  unfold upd
  split
  · rfl
  · split <;> rfl
theorem wordC_sane {m : Mach} (h : Sane m) (seg : V) (off : Int) : m.wordC seg off = true := by
  unfold Mach.wordC mwordC
  rw [h.tag]
  rfl
theorem push_stacky {m : Mach} (h : Stacky m) (v : Int) : m.push ⟨v, false⟩ = m.pushP v := by
  have e1 : m.plain m.r.g4 = m := plain_clean m _ h.g4
  have e2 : m.setWordOk ⟨12544, true⟩ (IntKind.u16.wrap (m.r.g4.v - 2)) ⟨v, false⟩ = true := by
    unfold Mach.setWordOk
    rw [owns_sane h.s _ _ rfl (by decide) (by decide), wordC_sane h.s]
    rfl
  unfold Mach.push
  dsimp only
  rw [e1, h.s2, Mach.setWord, if_pos e2]
  unfold Mach.putWord Mach.setR Mach.pushP
  dsimp only
  rw [h.s.tag, setT_zero]
  rfl
theorem popV_stacky {m : Mach} (h : Stacky m) : m.popV = ⟨m.mem (lin 12544 m.r.g4.v) + 256 * m.mem (lin 12544 (succW m.r.g4.v)), false⟩ := by
  unfold Mach.popV
  rw [plain_clean m _ h.g4, h.s2]
  unfold Mach.wordV mwordV mwordT
  rw [h.s.tag]
  rfl
theorem popM_stacky {m : Mach} (h : Stacky m) : m.popM = m.setR { m.r with g4 := ⟨IntKind.u16.wrap (m.r.g4.v + 2), false⟩ } := by
  have e2 : m.wordOk ⟨12544, true⟩ m.r.g4.v = true := by
    unfold Mach.wordOk
    rw [owns_sane h.s _ _ rfl (by decide) (by decide), wordC_sane h.s]
    rfl
  unfold Mach.popM
  rw [plain_clean m _ h.g4, h.s2, Mach.wordS, if_pos e2]
  rfl
theorem Stacky.on {m : Mach} (h : Stacky m) (n : Nat) : Stacky (m.on n) := ⟨⟨h.s.base, h.s.size, h.s.state, h.s.tag, h.s.s1⟩, h.s2, h.g4⟩
theorem Stacky.pushP {m : Mach} (h : Stacky m) (v : Int) : Stacky (m.pushP v) := ⟨⟨h.s.base, h.s.size, h.s.state, h.s.tag, h.s.s1⟩, h.s2, rfl⟩
theorem Stacky.setR {m : Mach} (h : Stacky m) {r : Regs} (h1 : r.s1 = m.r.s1) (h2 : r.s2 = m.r.s2) (h4 : r.g4.t = false) : Stacky (m.setR r) := ⟨⟨h.s.base, h.s.size, h.s.state, h.s.tag, h1.trans h.s.s1⟩, h2.trans h.s2, h4⟩
theorem put_s (r : Regs) (n : Int) (v : V) : (r.put n v).s1 = r.s1 ∧ (r.put n v).s2 = r.s2 ∧ (r.put n v).ip = r.ip ∧ (r.put n v).f = r.f := by
  unfold Regs.put
  repeat (first | exact ⟨rfl, rfl, rfl, rfl⟩ | (split; exact ⟨rfl, rfl, rfl, rfl⟩))
theorem put_g4 (r : Regs) (n : Int) (v : V) (h : r.g4.t = false) (hv : v.t = false) : (r.put n v).g4.t = false := by
  unfold Regs.put
  repeat (first | exact h | exact hv | (split; first | exact h | exact hv))
theorem get_put (r : Regs) (n : Int) (v : V) (h0 : 0 ≤ n) (h8 : n < 8) : (r.put n v).get n = v := by
  rcases cases8 h0 h8 with rfl | rfl | rfl | rfl | rfl | rfl | rfl | rfl <;> rfl
theorem put_g4v (r : Regs) (n : Int) (v : V) (h : n ≠ 4) : (r.put n v).g4 = r.g4 := by
  unfold Regs.put
  repeat (first | rfl | (split; first | rfl | (exfalso; omega)))

theorem lin12 (off : Int) (h0 : 0 ≤ off) (h1 : off ≤ 65535) : (lin 12544 off : Int) = 200704 + off := by unfold lin; omega
/-- What was pushed is there. -/
theorem pushP_mem (m : Mach) (v : Int) (h0 : 0 ≤ v) (h1 : v ≤ 65535) :
    (m.pushP v).mem (lin 12544 (m.pushP v).r.g4.v) + 256 * (m.pushP v).mem (lin 12544 (succW (m.pushP v).r.g4.v)) = v := by
  have hne := lin_ne 12544 (IntKind.u16.wrap (m.r.g4.v - 2)) (wrap16_lo _) (wrap16_hi _)
  show setF m.mem (lin 12544 (IntKind.u16.wrap (m.r.g4.v - 2))) (lin 12544 (succW (IntKind.u16.wrap (m.r.g4.v - 2)))) v (lin 12544 (IntKind.u16.wrap (m.r.g4.v - 2))) + 256 * setF m.mem (lin 12544 (IntKind.u16.wrap (m.r.g4.v - 2))) (lin 12544 (succW (IntKind.u16.wrap (m.r.g4.v - 2)))) v (lin 12544 (succW (IntKind.u16.wrap (m.r.g4.v - 2)))) = v
  unfold setF upd
  rw [if_neg hne, if_pos rfl, if_pos rfl]
  omega
/-- The code is not what is pushed. -/
theorem pushP_code (m : Mach) (v : Int) (x : Int) : (m.pushP v).mem (lin 256 (IntKind.u16.wrap x)) = m.mem (lin 256 (IntKind.u16.wrap x)) := by
  have h1 := lin256 (IntKind.u16.wrap x) (wrap16_lo _) (wrap16_hi _)
  have h2 := lin12 (IntKind.u16.wrap (m.r.g4.v - 2)) (wrap16_lo _) (wrap16_hi _)
  have h3 := lin12 (succW (IntKind.u16.wrap (m.r.g4.v - 2))) (wrap16_lo _) (wrap16_hi _)
  have b1 := wrap16_lo x
  have b2 := wrap16_hi x
  have b3 := wrap16_lo (m.r.g4.v - 2)
  have b4 : 0 ≤ succW (IntKind.u16.wrap (m.r.g4.v - 2)) := wrap16_lo _
  show setF m.mem (lin 12544 (IntKind.u16.wrap (m.r.g4.v - 2))) (lin 12544 (succW (IntKind.u16.wrap (m.r.g4.v - 2)))) v (lin 256 (IntKind.u16.wrap x)) = _
  unfold setF upd
  rw [if_neg (by omega), if_neg (by omega)]
theorem code_step {m m' : Mach} {bs : List Int} (h : CodeIs m bs) (hs1 : m.r.s1 = ⟨256, true⟩) (n : Nat) (h1 : m'.r.s1 = m.r.s1) (h2 : m'.r.ip = IntKind.u16.wrap (m.r.ip + n)) (h3 : ∀ x, m'.mem (lin 256 (IntKind.u16.wrap x)) = m.mem (lin 256 (IntKind.u16.wrap x))) : CodeIs m' (bs.drop n) :=
  codeIs_on h n h1 h2 (fun k => by rw [hs1]; show m'.mem (lin 256 _) = m.code _; rw [h3]; unfold Mach.code; rw [hs1])
end Go.Proofs.YtcglkefaopgjeaaGreatDoor

/- The four steps of CpuStack: plain laws, no walk. -/
namespace Go.Proofs.YtcglkefaopgjeaaGreatDoor
set_option linter.unusedSimpArgs false
set_option linter.unusedVariables false
open Go.RowKit

theorem begR_get (r : Regs) (a : Int) (h0 : 0 ≤ a) (h8 : a < 8) : (begR r).get a = ⟨(r.get a).v, false⟩ := by
  rcases cases8 h0 h8 with rfl | rfl | rfl | rfl | rfl | rfl | rfl | rfl <;> rfl
abbrev stB (a b : Int) : List Int := [80 + a, 88 + b, 156, 157]
/-- What PUSH pushes. -/
def pv (r : Regs) (a : Int) : Int := if a = 4 then IntKind.u16.wrap (r.g4.v - 2) else (r.get a).v
theorem pv_lo {r : Regs} (h : r.wf) (a : Int) : 0 ≤ pv r a ∧ pv r a ≤ 65535 := by
  unfold pv
  split
  · exact ⟨wrap16_lo _, wrap16_hi _⟩
  · exact Regs.get_wf h a
def cs1 (r : Regs) (a b : Int) : Mach := ((begun r (stB a b)).on 1).pushP (pv r a)
def cs2 (r : Regs) (a b : Int) : Mach := ((cs1 r a b).on 1).setR (({ ((cs1 r a b).on 1).r with g4 := ⟨IntKind.u16.wrap ((cs1 r a b).r.g4.v + 2), false⟩ } : Regs).put b ⟨pv r a, false⟩)
def cs3 (r : Regs) (a b : Int) : Mach := ((cs2 r a b).on 1).pushP (orW (andW (cs2 r a b).r.f 4053) 61442)
def cs4 (r : Regs) (a b : Int) : Mach := ((cs3 r a b).on 1).setR { ((cs3 r a b).on 1).r with g4 := ⟨IntKind.u16.wrap ((cs3 r a b).r.g4.v + 2), false⟩, f := andW (orW (andW (cs2 r a b).r.f 4053) 61442) 4053 }
theorem stacky0 (r : Regs) (bs : List Int) : Stacky (begun r bs) := ⟨sane_begun r bs, rfl, rfl⟩
theorem stacky1 (r : Regs) (a b : Int) : Stacky (cs1 r a b) := ((stacky0 r _).on 1).pushP _
theorem stacky2 (r : Regs) (a b : Int) : Stacky (cs2 r a b) := ((stacky1 r a b).on 1).setR (put_s _ _ _).1 (put_s _ _ _).2.1 (put_g4 _ _ _ rfl rfl)
theorem stacky3 (r : Regs) (a b : Int) : Stacky (cs3 r a b) := ((stacky2 r a b).on 1).pushP _
theorem push_one {r : Regs} {a b : Int} (h0 : 0 ≤ a) (h8 : a < 8) : ((begun r (stB a b)).on 1).doPush (opI (80 + a) false 0 0) ⟨9, 22, 0, false⟩ = cs1 r a b := by
  have e8 : (80 + a) % 8 = a := by omega
  have hg : ((begun r (stB a b)).on 1).getV (opI (80 + a) false 0 0) 22 zeroV = ⟨(r.get a).v, false⟩ := by
    show (begR r).get ((80 + a) % 8) = _
    rw [e8]
    exact begR_get r a h0 h8
  have hm : ((begun r (stB a b)).on 1).getM (opI (80 + a) false 0 0) 22 = (begun r (stB a b)).on 1 := rfl
  unfold Mach.doPush
  dsimp only
  rw [hg, hm]
  unfold cs1 pv
  by_cases h : a = 4
  · subst h
    rw [if_pos (by decide), if_pos rfl]
    exact push_stacky ((stacky0 r _).on 1) _
  · rw [if_neg (by simp only [pushesSP]; rw [e8]; simpa using h), if_neg h]
    exact push_stacky ((stacky0 r _).on 1) _
theorem pop_two {r : Regs} (hr : r.wf) {a b : Int} (h0 : 0 ≤ b) (h8 : b < 8) : ((cs1 r a b).on 1).doPop (opI (88 + b) false 0 0) ⟨10, 22, 0, false⟩ = cs2 r a b := by
  have e8 : (88 + b) % 8 = b := by omega
  have hs := (stacky1 r a b).on 1
  have hv : ((cs1 r a b).on 1).popV = ⟨pv r a, false⟩ := by
    rw [popV_stacky hs]
    exact congrArg (fun x => (⟨x, false⟩ : V)) (pushP_mem _ _ (pv_lo hr a).1 (pv_lo hr a).2)
  unfold Mach.doPop
  dsimp only
  rw [hv, popM_stacky hs]
  show (((cs1 r a b).on 1).setR _).setR (Regs.put _ ((88 + b) % 8) _) = _
  rw [e8]
  rfl
theorem pushf_three (r : Regs) (a b : Int) : ((cs2 r a b).on 1).doPushF = cs3 r a b := push_stacky ((stacky2 r a b).on 1) _
theorem popf_four (r : Regs) (a b : Int) : ((cs3 r a b).on 1).doPopF = cs4 r a b := by
  have hs := (stacky3 r a b).on 1
  have hv : ((cs3 r a b).on 1).popV = ⟨orW (andW (cs2 r a b).r.f 4053) 61442, false⟩ := by
    rw [popV_stacky hs]
    exact congrArg (fun x => (⟨x, false⟩ : V)) (pushP_mem _ _ (or_lo _ _) (or_hi _ _))
  unfold Mach.doPopF
  rw [hv, plain_clean _ _ rfl, popM_stacky hs]
  rfl
theorem andW_nat (n c : Nat) (hn : n < 65536) (hc : c < 65536) : andW (n : Int) (c : Int) = ((n &&& c : Nat) : Int) := u16_and_nat n c hn hc
theorem and_le_nat (a b : Nat) : a &&& b ≤ b := Nat.and_le_right
theorem flags_same (f : Int) (h0 : 0 ≤ f) (h1 : f ≤ 65535) : andW (orW (andW (andW f 4053) 4053) 61442) 4053 = andW f 4053 := by
  obtain ⟨n, rfl⟩ := Int.eq_ofNat_of_zero_le h0
  have hn : n < 65536 := by omega
  have e1 : andW (n : Int) 4053 = ((n &&& 4053 : Nat) : Int) := u16_and_nat n 4053 hn (by decide)
  have l1 : n &&& 4053 < 65536 := Nat.lt_of_le_of_lt Nat.and_le_right (by decide)
  have e2 : andW ((n &&& 4053 : Nat) : Int) 4053 = (((n &&& 4053) &&& 4053 : Nat) : Int) := u16_and_nat _ 4053 l1 (by decide)
  have l2 : (n &&& 4053) &&& 4053 < 65536 := Nat.lt_of_le_of_lt Nat.and_le_right (by decide)
  have e3 : orW (((n &&& 4053) &&& 4053 : Nat) : Int) 61442 = ((((n &&& 4053) &&& 4053) ||| 61442 : Nat) : Int) := u16_or_nat _ 61442 l2 (by decide)
  have l3 : ((n &&& 4053) &&& 4053) ||| 61442 < 65536 := Nat.or_lt_two_pow (n := 16) l2 (by decide)
  rw [e1, e2, e3]
  have e4 : andW ((((n &&& 4053) &&& 4053) ||| 61442 : Nat) : Int) 4053 = (((((n &&& 4053) &&& 4053) ||| 61442) &&& 4053 : Nat) : Int) := u16_and_nat _ 4053 l3 (by decide)
  rw [e4, Nat.and_or_distrib_right, show 61442 &&& 4053 = 0 from rfl, Nat.or_zero, Nat.and_assoc, Nat.and_self, Nat.and_assoc, Nat.and_self]

/-- What CpuStack asks of its machines. -/
theorem cs_low (r : Regs) (a b : Int) : (cs1 r a b).r.g4.v = IntKind.u16.wrap (r.g4.v - 2) := rfl
theorem cs_got (r : Regs) (a b : Int) (h0 : 0 ≤ b) (h8 : b < 8) : (cs2 r a b).r.get b = ⟨pv r a, false⟩ := get_put _ _ _ h0 h8
theorem cs_sp {r : Regs} (hr : r.wf) (a b : Int) (h : b ≠ 4) : (cs2 r a b).r.g4.v = r.g4.v := by
  show (Regs.put _ b _).g4.v = _
  rw [put_g4v _ _ _ h]
  show IntKind.u16.wrap (IntKind.u16.wrap (r.g4.v - 2) + 2) = r.g4.v
  have h0 := hr.g4.1
  have h1 := hr.g4.2
  simp only [IntKind.wrap_u16]
  omega
theorem put_wf_g4 {r : Regs} (h : r.wf) (n : Int) (v : V) (hv : v.wf) : (r.put n v).g4.wf := (Regs.put_wf h n hv).g4
theorem cs2_g4 {r : Regs} (hr : r.wf) (a b : Int) : 0 ≤ (cs2 r a b).r.g4.v ∧ (cs2 r a b).r.g4.v ≤ 65535 := by
  have h1 : Regs.wf { ((cs1 r a b).on 1).r with g4 := ⟨IntKind.u16.wrap ((cs1 r a b).r.g4.v + 2), false⟩ } :=
    { begR_wf hr with g4 := ⟨wrap16_lo _, wrap16_hi _⟩, ip := ⟨wrap16_lo _, wrap16_hi _⟩ }
  exact put_wf_g4 h1 b ⟨pv r a, false⟩ (pv_lo hr a)
theorem cs_f (r : Regs) (a b : Int) : (cs2 r a b).r.f = andW r.f 4053 := (put_s _ _ _).2.2.2
theorem cs_same {r : Regs} (hr : r.wf) (a b : Int) : (cs4 r a b).r = { (cs2 r a b).r with ip := IntKind.u16.wrap ((cs2 r a b).r.ip + 2) } := by
  have hf := cs_f r a b
  have hg := cs2_g4 hr a b
  have ht := (stacky2 r a b).g4
  generalize hm : cs2 r a b = m at hf hg ht
  have e : (cs4 r a b).r = { m.r with g4 := ⟨IntKind.u16.wrap (IntKind.u16.wrap (m.r.g4.v - 2) + 2), false⟩, f := andW (orW (andW m.r.f 4053) 61442) 4053, ip := IntKind.u16.wrap (IntKind.u16.wrap (m.r.ip + 1) + 1) } := by rw [← hm]; rfl
  rw [e, hf, flags_same _ hr.f.1 hr.f.2]
  have e1 : IntKind.u16.wrap (IntKind.u16.wrap (m.r.g4.v - 2) + 2) = m.r.g4.v := by simp only [IntKind.wrap_u16]; omega
  have e2 : IntKind.u16.wrap (IntKind.u16.wrap (m.r.ip + 1) + 1) = IntKind.u16.wrap (m.r.ip + 2) := by simp only [IntKind.wrap_u16]; omega
  rw [e1, e2, ← hf]
  have e3 : (⟨m.r.g4.v, false⟩ : V) = m.r.g4 := by rw [← ht]
  rw [e3]
theorem cs_state (r : Regs) (a b : Int) : (cs4 r a b).state = 0 := rfl

/-- The steps. -/
theorem aloneB_push : ∀ a : Fin 8, aloneB (80 + (a.val : Int)) = true ∧ isaOf (80 + (a.val : Int)) 0 = some ⟨9, 22, 0, false⟩ := by
  rintro ⟨a, h⟩
  have hc : a = 0 ∨ a = 1 ∨ a = 2 ∨ a = 3 ∨ a = 4 ∨ a = 5 ∨ a = 6 ∨ a = 7 := by omega
  rcases hc with rfl | rfl | rfl | rfl | rfl | rfl | rfl | rfl <;> exact ⟨rfl, rfl⟩
theorem aloneB_pop : ∀ a : Fin 8, aloneB (88 + (a.val : Int)) = true ∧ isaOf (88 + (a.val : Int)) 0 = some ⟨10, 22, 0, false⟩ := by
  rintro ⟨a, h⟩
  have hc : a = 0 ∨ a = 1 ∨ a = 2 ∨ a = 3 ∨ a = 4 ∨ a = 5 ∨ a = 6 ∨ a = 7 := by omega
  rcases hc with rfl | rfl | rfl | rfl | rfl | rfl | rfl | rfl <;> exact ⟨rfl, rfl⟩
theorem cs_code0 {r : Regs} (hr : r.wf) (a b : Int) : CodeIs (begun r (stB a b)) (stB a b) := codeIs_begun r hr.ip.1 hr.ip.2 _ (by simp)
theorem cs_code1 {r : Regs} (hr : r.wf) (a b : Int) : CodeIs (cs1 r a b) [88 + b, 156, 157] := code_step (cs_code0 hr a b) rfl 1 rfl rfl (fun x => pushP_code _ _ x)
theorem cs_code2 {r : Regs} (hr : r.wf) (a b : Int) : CodeIs (cs2 r a b) [156, 157] := code_step (cs_code1 hr a b) rfl 1 (put_s _ _ _).1 (put_s _ _ _).2.2.1 (fun x => rfl)
theorem cs_code3 {r : Regs} (hr : r.wf) (a b : Int) : CodeIs (cs3 r a b) [157] := code_step (cs_code2 hr a b) (stacky2 r a b).s.s1 1 rfl rfl (fun x => pushP_code _ _ x)
theorem cs_step1 {r : Regs} (hr : r.wf) (C : Phys) (a : Nat) (b : Int) (ha : a < 8) : StepOk C (begun r (stB a b)) (cs1 r a b) := by
  have hp := aloneB_push ⟨a, ha⟩
  refine step_alone (sane_begun _ _) (80 + a) (by omega) (by omega) (cs_code0 hr a b 0 (by simp)) hp.1 ⟨9, 22, 0, false⟩ hp.2 (by decide) (by decide) ?_
  intro w lv h
  refine do_stack w C lv _ _ h _ ⟨9, 22, 0, false⟩ ⟨0, false⟩ (Or.inl rfl) ?_
  intro w lv h
  have := stack_push w C lv _ h (opI (80 + a) false 0 0) ⟨9, 22, 0, false⟩ (by show (0 : Int) ≤ 80 + a; omega) (by show (80 : Int) + a ≤ 255; omega) rfl (getOk_bare _ (by show (0 : Int) ≤ 80 + a; omega) (by show (80 : Int) + a ≤ 255; omega) 22 (by decide) (fun h => absurd h (by decide)))
  rwa [push_one (by omega) (by omega)] at this
theorem cs_step2 {r : Regs} (hr : r.wf) (C : Phys) (a : Int) (b : Nat) (hb : b < 8) : StepOk C (cs1 r a b) (cs2 r a b) := by
  have hp := aloneB_pop ⟨b, hb⟩
  refine step_alone (stacky1 _ _ _).s (88 + b) (by omega) (by omega) (cs_code1 hr a b 0 (by simp)) hp.1 ⟨10, 22, 0, false⟩ hp.2 (by decide) (by decide) ?_
  intro w lv h
  refine do_stack w C lv _ _ h _ ⟨10, 22, 0, false⟩ ⟨0, false⟩ (Or.inr (Or.inl rfl)) ?_
  intro w lv h
  have := stack_pop w C lv _ h (opI (88 + b) false 0 0) ⟨10, 22, 0, false⟩ rfl (putOk_bare _ (by show (0 : Int) ≤ 88 + b; omega) (by show (88 : Int) + b ≤ 255; omega) 22 (by decide) (fun h => absurd h (by decide)))
  rwa [pop_two hr (by omega) (by omega)] at this
theorem cs_step3 {r : Regs} (hr : r.wf) (C : Phys) (a b : Int) : StepOk C (cs2 r a b) (cs3 r a b) := by
  refine step_alone (stacky2 _ _ _).s 156 (by decide) (by decide) (cs_code2 hr a b 0 (by simp)) (by decide) ⟨42, 0, 0, false⟩ rfl (by decide) (by decide) ?_
  intro w lv h
  refine do_stack w C lv _ _ h _ ⟨42, 0, 0, false⟩ ⟨0, false⟩ (by decide) ?_
  intro w lv h
  have := stack_pushf w C lv _ h (opI 156 false 0 0) ⟨42, 0, 0, false⟩ rfl
  rwa [pushf_three] at this
theorem cs_step4 {r : Regs} (hr : r.wf) (C : Phys) (a b : Int) : StepOk C (cs3 r a b) (cs4 r a b) := by
  refine step_alone (stacky3 _ _ _).s 157 (by decide) (by decide) (cs_code3 hr a b 0 (by simp)) (by decide) ⟨43, 0, 0, false⟩ rfl (by decide) (by decide) ?_
  intro w lv h
  refine do_stack w C lv _ _ h _ ⟨43, 0, 0, false⟩ ⟨0, false⟩ (by decide) ?_
  intro w lv h
  have := stack_popf w C lv _ h (opI 157 false 0 0) ⟨43, 0, 0, false⟩ rfl
  rwa [popf_four] at this
end Go.Proofs.YtcglkefaopgjeaaGreatDoor

/- The law CpuStack. -/
namespace Go.Proofs.YtcglkefaopgjeaaGreatDoor
set_option linter.unusedSimpArgs false
set_option linter.unusedVariables false
open Go.RowKit

theorem mcell_g (C : Phys) (m : Mach) (a : Nat) (ha : a < 8) : (mcells C m)[a * 2]? = some (.int .u16 (m.r.get a).v) := by
  have hc : a = 0 ∨ a = 1 ∨ a = 2 ∨ a = 3 ∨ a = 4 ∨ a = 5 ∨ a = 6 ∨ a = 7 := by omega
  rcases hc with rfl | rfl | rfl | rfl | rfl | rfl | rfl | rfl <;> rfl

def csM (r : Regs) (a b : Int) : Nat → Mach
  | 0 => cs2 r a b
  | 1 => cs3 r a b
  | _ => cs4 r a b
theorem csM_steps {r : Regs} (hr : r.wf) (C : Phys) (a b : Int) : ∀ k, k < 2 → StepOk C (csM r a b k) (csM r a b (k + 1)) := by
  intro k hk
  match k, hk with
  | 0, _ => exact cs_step3 hr C a b
  | 1, _ => exact cs_step4 hr C a b

set_option maxRecDepth 100000 in
set_option maxHeartbeats 6400000 in
theorem cpuStack_any (r : Regs) (hr : r.wf) (n0 n1 : Int) (a b : Nat) (ha : bits .and .i64 n0 7 = (a : Int)) (hb : bits .and .i64 n1 7 = (b : Int)) (ha8 : a < 8) (hb8 : b < 8) (w : World) :
    Calls Tryz.prog 7 #[r.val, .agg #[.int .i64 n0, .int .i64 n1]] w fun e w' => e = .returned (.bool true) ∧ Below w.heap.size w w' := by
  have ea : IntKind.u8.wrap (a : Int) = (a : Int) := by rw [IntKind.wrap_u8]; omega
  have eb : IntKind.u8.wrap (b : Int) = (b : Int) := by rw [IntKind.wrap_u8]; omega
  have ea2 : IntKind.u8.wrap (80 + (a : Int)) = 80 + (a : Int) := by rw [IntKind.wrap_u8]; omega
  have eb2 : IntKind.u8.wrap (88 + (b : Int)) = 88 + (b : Int) := by rw [IntKind.wrap_u8]; omega
  go_enter Tryz.func7, Tryz.ntmps7
  go_wp2_with fail
  go_region
  go_wp2_with fail
  have hrow := ((Row.new ((w.alloc (.cells r.cells 28)).alloc (.cells #[.int .i64 n0, .int .i64 n1] 68)) #[.int .u8 (80 + (a : Int)), .int .u8 (88 + (b : Int)), .int .u8 156, .int .u8 157] 5)).drew
  have hcell : ∀ k, k < (stB a b).length → (((w.alloc (.cells r.cells 28)).alloc (.cells #[.int .i64 n0, .int .i64 n1] 68)).alloc (.cells #[.int .u8 (80 + (a : Int)), .int .u8 (88 + (b : Int)), .int .u8 156, .int .u8 157] 5)).drew.cell? ⟨w.heap.size + 1 + 1, k, none⟩ = some (.int .u8 ((stB a b).getD k 0)) := by
    intro k hk
    have := hrow.cell k
    simp only [World.size_alloc] at this
    rw [this]
    match k, hk with
    | 0, _ | 1, _ | 2, _ | 3, _ => rfl
    | k + 4, h => simp at h; omega
  have hlt : w.heap.size + 1 + 1 < (((w.alloc (.cells r.cells 28)).alloc (.cells #[.int .i64 n0, .int .i64 n1] 68)).alloc (.cells #[.int .u8 (80 + (a : Int)), .int .u8 (88 + (b : Int)), .int .u8 156, .int .u8 157] 5)).drew.heap.size := by
    simp
  have hbw : Below w.heap.size w (((w.alloc (.cells r.cells 28)).alloc (.cells #[.int .i64 n0, .int .i64 n1] 68)).alloc (.cells #[.int .u8 (80 + (a : Int)), .int .u8 (88 + (b : Int)), .int .u8 156, .int .u8 157] 5)).drew :=
    Below.drew ((((Below.refl w.heap.size w).alloc (Nat.le_refl _) _).alloc (by simp) _).alloc (by simp; omega) _)
  have bwf : ∀ k, 0 ≤ (stB a b).getD k 0 ∧ (stB a b).getD k 0 ≤ 255 := by
    intro k
    match k with
    | 0 => exact ⟨by show (0 : Int) ≤ 80 + a; omega, by show (80 : Int) + a ≤ 255; omega⟩
    | 1 => exact ⟨by show (0 : Int) ≤ 88 + b; omega, by show (88 : Int) + b ≤ 255; omega⟩
    | 2 => exact ⟨by show (0 : Int) ≤ 156; decide, by show (156 : Int) ≤ 255; decide⟩
    | 3 => exact ⟨by show (0 : Int) ≤ 157; decide, by show (157 : Int) ≤ 255; decide⟩
    | k + 4 => simp
  refine (begin_any _ r hr (w.heap.size + 1 + 1) 4 (stB a b) hlt hcell bwf (by simp)).mono ?_
  clear hcell hlt hrow bwf
  generalize (((w.alloc (.cells r.cells 28)).alloc (.cells #[.int .i64 n0, .int .i64 n1] 68)).alloc (.cells #[.int .u8 (80 + (a : Int)), .int .u8 (88 + (b : Int)), .int .u8 156, .int .u8 157] 5)).drew = W0 at hbw ⊢
  rintro e w1 ⟨C, lv, rfl, ho, hb1, hn⟩; dsimp only
  have HO1 := Lib.hid ho
  have HB1 := Lib.hid (hbw.trans (hb1.mono hbw.size))
  have HN := Lib.hid (fun k (hk : k < w.heap.size) => hn k (Nat.lt_of_lt_of_le hk hbw.size))
  clear ho hb1 hn hbw
  have c8 : w1.cell? ⟨C.b, 8, none⟩ = some (.int .u16 r.g4.v) := (HO1.out.row.cell 8).trans rfl
  have c25 : w1.cell? ⟨C.b, 25, none⟩ = some (.int .u16 (andW r.f 4053)) := (HO1.out.row.cell 25).trans rfl
  have ca : w1.cell? ⟨C.b, a * 2, none⟩ = some (.int .u16 (r.get a).v) := by
    rw [HO1.out.row.cell (a * 2), mcell_g C _ a ha8]
    show some (Value.int .u16 ((begR r).get a).v) = _
    rw [begR_get r a (by omega) (by omega)]
  have ia0 : (0 : Int) ≤ (a : Int) := by omega
  have ia1 : (a : Int) < 8 := by omega
  have ib0 : (0 : Int) ≤ (b : Int) := by omega
  have ib1 : (b : Int) < 8 := by omega
  go_upto_if 45 with fail
  go_cut [9] (fun s9 wx => s9 = .int .u16 (pv r a) ∧ w1 = wx)
  case first =>
    by_cases h4 : a = 4
    · have h4b : ((a : Int) == 4) = true := by simp [h4]
      have H4 := Lib.hid h4
      clear h4
      go_wp2_with fail
      go_meet
      exact ⟨by rw [pv, if_pos (by rw [H4.out]; rfl)], rfl⟩
    · have h4b : ((a : Int) == 4) = false := by simp; omega
      have H4 := Lib.hid h4
      clear h4
      go_wp2_with fail
      go_meet
      exact ⟨by rw [pv, if_neg (by have := H4.out; omega)], rfl⟩
  case rest =>
    obtain ⟨rfl, rfl⟩ := hcut
    clear ca
    obtain ⟨v, hv⟩ : ∃ v, pv r a = v := ⟨_, rfl⟩
    rw [hv]
    have HV := Lib.hid hv
    clear hv
    go_wp2_with fail
    refine (cs_step1 hr C a b ha8 _ _ HO1.out).mono ?_
    rintro e w2 ⟨rfl, lv2, h2, f2, k2⟩; dsimp only
    have HO2 := Lib.hid h2
    have HA2 := Lib.hid (show Acc C lv w1 lv2 w2 from ⟨f2, k2⟩)
    clear h2 f2 k2 c8 c25
    have c8 : w2.cell? ⟨C.b, 8, none⟩ = some (.int .u16 (IntKind.u16.wrap (r.g4.v - 2))) := (HO2.out.row.cell 8).trans rfl
    go_wp2_with fail
    refine (cs_step2 hr C a b hb8 _ _ HO2.out).mono ?_
    rintro e w3 ⟨rfl, lv3, h3, f3, k3⟩; dsimp only
    have HO3 := Lib.hid h3
    have HA3 := Lib.hid (HA2.out.trans ⟨f3, k3⟩)
    clear h3 f3 k3 c8
    have cb : w3.cell? ⟨C.b, b * 2, none⟩ = some (.int .u16 v) := by
      rw [HO3.out.row.cell (b * 2), mcell_g C _ b hb8, cs_got r a b (by omega) (by omega), HV.out]
    have c8 : w3.cell? ⟨C.b, 8, none⟩ = some (.int .u16 (cs2 r a b).r.g4.v) := (HO3.out.row.cell 8).trans (mcell8 C _)
    have fin : (a = 4 → True) := fun _ => trivial
    have key : (b ≠ 4 → (cs2 r a b).r.g4.v = r.g4.v) := fun h => cs_sp hr a b (by omega)
    have hs := cs_same hr a b
    have hf := cs_f r a b
    have hst := cs_state r a b
    have HS := Lib.hid hs
    have HF := Lib.hid hf
    have HST := Lib.hid hst
    have HB3 := Lib.hid (below_step HB1.out HA3.out.f HN.out)
    have ST3 := Lib.hid (cs_step3 hr C a b)
    have ST4 := Lib.hid (cs_step4 hr C a b)
    clear fin hs hf hst
    by_cases h4 : b = 4
    · have h4b : ((b : Int) != 4) = false := by simp [h4]
      have H4 := Lib.hid h4
      clear h4 key
      go_upto_if 94 with fail
      have sr := HO3.out.sees.r
      have sl := HO3.out.row.lt
      have HX3 := Lib.hid (Box.new HO3.out (cs2 r a b).r.cells 28)
      have HO3a := Lib.hid (HO3.out.alloc (.cells (cs2 r a b).r.cells 28))
      clear c8 cb
      go_wp2_with fail
      clear sr sl
      refine (run_any _ C lv3 (csM r a b) 2 2 (by decide) (by decide) HO3a.out (csM_steps hr C a b) (Or.inl rfl)).mono ?_
      rintro e w4 ⟨rfl, lv4, h4, f4, k4⟩; dsimp only
      have HO4 := Lib.hid (show Own w4 C lv4 (cs4 r a b) from h4)
      have HX4 := Lib.hid (HX3.out.step f4 k4)
      have HB4 := Lib.hid (below_step (HB3.out.alloc HB3.out.size (.cells (cs2 r a b).r.cells 28)) f4 (own_lv HN.out HA3.out.k HB1.out.size))
      clear h4 f4 k4
      obtain ⟨xc, xf, xr, xs, xl⟩ := HX4.out.row.sees
      go_wp2_with fail
      have G1 := HO4.out.setBox (p := ⟨w3.heap.size, 24, none⟩) HX4.out.no (HO3.out.apart (Nat.le_refl _)) (.int .u16 (IntKind.u16.wrap ((cs2 r a b).r.ip + 2)))
      have HB5 := Lib.hid (HB4.out.setCell (p := ⟨w3.heap.size, 24, none⟩) (show _ ≤ w3.heap.size from HB3.out.size) (.int .u16 (IntKind.u16.wrap ((cs2 r a b).r.ip + 2))))
      have g2 := G1.sees.r
      have g5 : (w4.setCell ⟨w3.heap.size, 24, none⟩ (.int .u16 (IntKind.u16.wrap ((cs2 r a b).r.ip + 2)))).cell? ⟨C.b, 25, none⟩ = some (.int .u16 (andW r.f 4053)) := by
        rw [G1.row.cell 25, mcell25, HS.out]
        exact congrArg (fun x => some (Value.int .u16 x)) HF.out
      rw [HS.out] at g2
      have g3 := HX4.out.row.setCell 24 (.int .u16 (IntKind.u16.wrap ((cs2 r a b).r.ip + 2)))
      rw [Regs.set_ip] at g3
      have g4 := g3.sees.r
      have HE := Lib.hid (eq_regs { (cs2 r a b).r with ip := IntKind.u16.wrap ((cs2 r a b).r.ip + 2) })
      clear xc xf xr xs xl g3
      generalize ({ (cs2 r a b).r with ip := IntKind.u16.wrap ((cs2 r a b).r.ip + 2) } : Regs) = R at g2 g4 HE
      generalize w4.setCell ⟨w3.heap.size, 24, none⟩ (.int .u16 (IntKind.u16.wrap ((cs2 r a b).r.ip + 2))) = w5 at G1 HB5 g2 g4 g5 ⊢
      refine range_of (w5) ?_; intro S inst ω hin hout
      have r2 := range_regs hin g2
      have r3 := range_regs hin g4
      have r5 := range_cell hin g5
      have k1 := range_call hin hout awake_any
      have k2 := range_calls hin hout (fun w hw => (state_any w C lv4 _ (G1.below hw)).mono (by rintro e w' ⟨rfl, rfl⟩; exact ⟨rfl, Below.refl _ _⟩))
      rw [HST.out] at k2
      have eqr := HE.out
      clear g2 g4 g5 G1
      refine wp_region_range_lit ω (by kernel_rfl) (by kernel_rfl) (hout _ (Below.refl _ _).drew) ?_
      repeat (go_big_quiet_step (first | (with_reducible exact k1 _) | (with_reducible exact k2 _)))
      refine wpQuiet_nil ?_; intro _ hw'; obtain ⟨nq, rfl⟩ := hw'
      go_wp2_with fail
      go_ret
      exact ⟨rfl, HB5.out.trans ((hin nq).mono HB5.out.size)⟩
    · have h4b : ((b : Int) != 4) = true := by simp; omega
      rw [key h4] at c8
      have H4 := Lib.hid h4
      clear h4 key
      go_upto_if 94 with fail
      have sr := HO3.out.sees.r
      have sl := HO3.out.row.lt
      have HX3 := Lib.hid (Box.new HO3.out (cs2 r a b).r.cells 28)
      have HO3a := Lib.hid (HO3.out.alloc (.cells (cs2 r a b).r.cells 28))
      clear c8 cb
      go_wp2_with fail
      clear sr sl
      refine (run_any _ C lv3 (csM r a b) 2 2 (by decide) (by decide) HO3a.out (csM_steps hr C a b) (Or.inl rfl)).mono ?_
      rintro e w4 ⟨rfl, lv4, h4, f4, k4⟩; dsimp only
      have HO4 := Lib.hid (show Own w4 C lv4 (cs4 r a b) from h4)
      have HX4 := Lib.hid (HX3.out.step f4 k4)
      have HB4 := Lib.hid (below_step (HB3.out.alloc HB3.out.size (.cells (cs2 r a b).r.cells 28)) f4 (own_lv HN.out HA3.out.k HB1.out.size))
      clear h4 f4 k4
      obtain ⟨xc, xf, xr, xs, xl⟩ := HX4.out.row.sees
      go_wp2_with fail
      have G1 := HO4.out.setBox (p := ⟨w3.heap.size, 24, none⟩) HX4.out.no (HO3.out.apart (Nat.le_refl _)) (.int .u16 (IntKind.u16.wrap ((cs2 r a b).r.ip + 2)))
      have HB5 := Lib.hid (HB4.out.setCell (p := ⟨w3.heap.size, 24, none⟩) (show _ ≤ w3.heap.size from HB3.out.size) (.int .u16 (IntKind.u16.wrap ((cs2 r a b).r.ip + 2))))
      have g2 := G1.sees.r
      have g5 : (w4.setCell ⟨w3.heap.size, 24, none⟩ (.int .u16 (IntKind.u16.wrap ((cs2 r a b).r.ip + 2)))).cell? ⟨C.b, 25, none⟩ = some (.int .u16 (andW r.f 4053)) := by
        rw [G1.row.cell 25, mcell25, HS.out]
        exact congrArg (fun x => some (Value.int .u16 x)) HF.out
      rw [HS.out] at g2
      have g3 := HX4.out.row.setCell 24 (.int .u16 (IntKind.u16.wrap ((cs2 r a b).r.ip + 2)))
      rw [Regs.set_ip] at g3
      have g4 := g3.sees.r
      have HE := Lib.hid (eq_regs { (cs2 r a b).r with ip := IntKind.u16.wrap ((cs2 r a b).r.ip + 2) })
      clear xc xf xr xs xl g3
      generalize ({ (cs2 r a b).r with ip := IntKind.u16.wrap ((cs2 r a b).r.ip + 2) } : Regs) = R at g2 g4 HE
      generalize w4.setCell ⟨w3.heap.size, 24, none⟩ (.int .u16 (IntKind.u16.wrap ((cs2 r a b).r.ip + 2))) = w5 at G1 HB5 g2 g4 g5 ⊢
      refine range_of (w5) ?_; intro S inst ω hin hout
      have r2 := range_regs hin g2
      have r3 := range_regs hin g4
      have r5 := range_cell hin g5
      have k1 := range_call hin hout awake_any
      have k2 := range_calls hin hout (fun w hw => (state_any w C lv4 _ (G1.below hw)).mono (by rintro e w' ⟨rfl, rfl⟩; exact ⟨rfl, Below.refl _ _⟩))
      rw [HST.out] at k2
      have eqr := HE.out
      clear g2 g4 g5 G1
      refine wp_region_range_lit ω (by kernel_rfl) (by kernel_rfl) (hout _ (Below.refl _ _).drew) ?_
      repeat (go_big_quiet_step (first | (with_reducible exact k1 _) | (with_reducible exact k2 _)))
      refine wpQuiet_nil ?_; intro _ hw'; obtain ⟨nq, rfl⟩ := hw'
      go_wp2_with fail
      go_ret
      exact ⟨rfl, HB5.out.trans ((hin nq).mono HB5.out.size)⟩
end Go.Proofs.YtcglkefaopgjeaaGreatDoor

/- CpuStack: for every input the law returns true, and its arguments read as before; conditions: hansom/addr.bases holds its own text. -/
namespace Go.Proofs.YtcglkefaopgjeaaGreatDoor.cpuStack
set_option linter.unusedSimpArgs false
set_option linter.unusedVariables false
open Go.ChangeShapes Go.WideShapes Go.ChangeAt Go.RowKit

theorem walk (R0 : Regs) (w0 : R0.wf) (a1 b1 : Int) (w1 : (-9223372036854775808 ≤ a1 ∧ a1 ≤ 9223372036854775807) ∧ (-9223372036854775808 ≤ b1 ∧ b1 ≤ 9223372036854775807)) (w : World) :
    Calls Tryz.prog 7 #[R0.val, .agg #[.int .i64 a1, .int .i64 b1]] w fun e w' => e = .returned (.bool true) ∧ Below w.heap.size w w' := by
  obtain ⟨a, ha⟩ : ∃ a : Nat, a1 % 8 = (a : Int) := ⟨(a1 % 8).toNat, by omega⟩
  obtain ⟨b, hb⟩ : ∃ b : Nat, b1 % 8 = (b : Int) := ⟨(b1 % 8).toNat, by omega⟩
  exact cpuStack_any R0 w0 a1 b1 a b ((i64_mask a1 3 7 rfl (by decide)).trans ha) ((i64_mask b1 3 7 rfl (by decide)).trans hb) (by omega) (by omega) w

set_option maxRecDepth 100000 in
theorem lifted (os : Os) (started : os.Started) (H : Type) (enc : TypeId × Value → H) :
    ReturnsInHanded {} Tryz.checked os 7 .any (fun w args => (Rows.cpuStackSpec.pre enc Tryz.prog Tryz.f7 [] false w args ∧ laidMetH Tryz.prog [("hansom/addr.bases", Rows.laid_hansom_addr_bases)] w) ∧ sizedMet enc Tryz.prog Tryz.f7 (OpenSpec.ofChange Rows.cpuStackSpec) false w args)
      (Rows.cpuStackSpec.post enc Tryz.prog Tryz.f7 false true false false) := by
  refine returnsInHanded_of_change_and (C := Tryz.checked) (X := fun w _ => laidMetH Tryz.prog [("hansom/addr.bases", Rows.laid_hansom_addr_bases)] w) (fun _ _ _ hh h => h.of_heap hh) own started (by kernel_rfl) Tryz.func7
    (ChangeSpec.witness_shaped (enc := enc) (C := Tryz.checked) (os := os) (X := fun w _ => laidMetH Tryz.prog [("hansom/addr.bases", Rows.laid_hansom_addr_bases)] w) false (World.doorLaid Tryz.prog 4000 os) #[zeroRegs.val, .agg #[.int .i64 0, .int .i64 0]] 8 rfl (World.shaped_of_RefB (by kernel_rfl) (by kernel_rfl)) (by kernel_rfl) (by kernel_rfl) (by kernel_rfl) (door_met os _)) ?_
  intro W base args ds gs before hval0 hW _ _ hL _
  have hval : ∀ (j : Nat) t v, Tryz.f7.params[j]? = some t → args[j]? = some v → Value.okWide Tryz.prog W .any base t v := hval0
  have hW' := hW
  obtain ⟨p, q, hA0, hV, rfl, hfz, hnd⟩ := hW
  have hA : DataW.TrodAll enc Tryz.prog W 0 (fun _ => true) true Tryz.f7.params.toList args.toList ds p := hA0
  rw [Tryz.params7] at hA hval
  obtain ⟨v0, vs0, d0, ds0, p0, q0, hargs, rfl, rfl, h0, r0⟩ := trodAll_cons hA
  obtain ⟨v1, vs1, d1, ds1, p1, q1, rfl, rfl, rfl, h1, r1⟩ := trodAll_cons r0
  obtain ⟨rfl, rfl, rfl⟩ := trodAll_nil r1
  obtain rfl : args = #[v0, v1] := by cases args; simp_all
  obtain ⟨rfl, rfl⟩ := trodVars_none hV
  obtain ⟨R0, rfl, w0, rfl⟩ := open_regs (hval 0 _ v0 rfl rfl) h0
  obtain ⟨a1, b1, rfl, w1, rfl⟩ := open_a2 (hval 1 _ v1 rfl rfl) h1
  clear hA0 hval0
  simp only [List.append_nil] at hW'
  refine (walk R0 w0 a1 b1 w1 W).mono fun e W' ⟨he, hg⟩ => ?_
  subst he
  exact ⟨_, rfl, _, _, _, [], [], [], hW', trodAll_cons_mk (shut_bool Tryz.underlying4 _) trodAll_mk0, (trodAll_cons_mk (regs_stays h0) (trodAll_cons_mk (a2_stays h1) trodAll_mk0)), rfl, hg.frame _, fun h => by cases h⟩

theorem row_holds : Rows.CpuStackSaid :=
  OpenClaim.holds_of_wide 7 Tryz.f7 rfl rfl rfl rfl rfl rfl rfl ⟨rfl, rfl, rfl, rfl, rfl⟩ rfl rfl rfl rfl rfl (by kernel_rfl) Tryz.func7 (by kernel_rfl)
    (of_decide_eq_true (by kernel_rfl)) (by unfold Func.isWrapper; first | (rw [if_pos (by decide +kernel)]; kernel_rfl) | (rw [if_neg (by decide +kernel)]; exact ⟨rfl, rfl⟩))
    (fun os started H enc _ => lifted os started H enc)
end Go.Proofs.YtcglkefaopgjeaaGreatDoor.cpuStack
