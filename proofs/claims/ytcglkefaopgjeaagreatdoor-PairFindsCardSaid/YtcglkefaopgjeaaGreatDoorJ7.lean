/- Package cpu: stack. -/
import Derived.Test.YtcglkefaopgjeaaGreatDoorJ6
import Derived.Test.YtcglkefaopgjeaaGreatDoorE8
namespace Go.Proofs.YtcglkefaopgjeaaGreatDoor
set_option linter.unusedSimpArgs false
set_option linter.unusedVariables false
open Go.RowKit

/-- Get and Put have their contracts at an operand. -/
def GetOk (i : Inst) (op : Int) : Prop := ∀ (w : World) (C : Phys) (lv : Value) (m : Mach), Own w C lv m → ∀ t : V,
  Calls Tryz.prog 66 #[.pointer (some ⟨C.b, 0, none⟩), i.val, .int .i64 op, t.val] w fun e w' => e = .returned (m.getV i op t).val ∧ After C lv w (m.getM i op) w'
def PutOk (i : Inst) (op : Int) : Prop := ∀ (w : World) (C : Phys) (lv : Value) (m : Mach), Own w C lv m → ∀ t : V, t.wf →
  Calls Tryz.prog 179 #[.pointer (some ⟨C.b, 0, none⟩), i.val, .int .i64 op, t.val] w fun e w' => e = .returned (.tuple #[]) ∧ After C lv w (m.putV i op t) w'
theorem getOk_bare (i : Inst) (h0 : 0 ≤ i.op) (h1 : i.op ≤ 255) (op : Int) (ho : (1 ≤ op ∧ op ≤ 8) ∨ (14 ≤ op ∧ op ≤ 18) ∨ (21 ≤ op ∧ op ≤ 24)) (hm : op ≤ 2 → i.mod = 3) : GetOk i op := fun w C lv m h t => getBare_any w C lv m h i h0 h1 op ho hm t
theorem putOk_bare (i : Inst) (h0 : 0 ≤ i.op) (h1 : i.op ≤ 255) (op : Int) (ho : (1 ≤ op ∧ op ≤ 5) ∨ op = 14 ∨ op = 16 ∨ (21 ≤ op ∧ op ≤ 23)) (hm : op ≤ 2 → i.mod = 3) : PutOk i op := fun w C lv m h t ht => putBare_any w C lv m h i h0 h1 op ho hm t ht

theorem or_lo (a b : Int) : 0 ≤ orW a b := by show 0 ≤ IntKind.u16.wrap _; exact wrap16_lo _
theorem or_hi (a b : Int) : orW a b ≤ 65535 := by show IntKind.u16.wrap _ ≤ 65535; exact wrap16_hi _
theorem and_lo (a b : Int) : 0 ≤ andW a b := by show 0 ≤ IntKind.u16.wrap _; exact wrap16_lo _
theorem and_hi (a b : Int) : andW a b ≤ 65535 := by show IntKind.u16.wrap _ ≤ 65535; exact wrap16_hi _
abbrev rowC (r : IRow) : Array Value := #[.int .i64 r.name, .int .i64 r.a, .int .i64 r.b, .bool r.mod]
/-- The boxes that stack begins with. -/
structure StIn (C : Phys) (lv : Value) (w : World) (m : Mach) (i : Inst) (r : IRow) (W0 : World) : Prop where
  o : Own W0 C lv m
  a : Acc C lv w lv W0
  i : Box C lv W0 w.heap.size (instC i) 30
  r : Box C lv W0 (w.heap.size + 1) (rowC r) 47
theorem stIn {C : Phys} {lv : Value} {w : World} {m : Mach} (h : Own w C lv m) (i : Inst) (r : IRow) : StIn C lv w m i r ((w.alloc (.cells (instC i) 30)).alloc (.cells (rowC r) 47)) := by
  have o1 := h.alloc (.cells (instC i) 30)
  have x2 := Box.new o1 (rowC r) 47
  rw [World.size_alloc] at x2
  exact ⟨o1.alloc _, ((Acc.refl C lv w).alloc _).alloc _, (Box.new h _ _).alloc _, x2⟩

def pushesSP (i : Inst) (r : IRow) : Bool := (r.a == 22 && i.op % 8 == 4) || (r.a == 2 && i.mod == 3 && i.rm == 4)
def Mach.doPush (m : Mach) (i : Inst) (r : IRow) : Mach := (m.getM i r.a).push (if pushesSP i r then ⟨IntKind.u16.wrap ((m.getV i r.a zeroV).v - 2), (m.getV i r.a zeroV).t⟩ else m.getV i r.a zeroV)
def Mach.doPop (m : Mach) (i : Inst) (r : IRow) : Mach := m.popM.putV i r.a m.popV
def Mach.doPushF (m : Mach) : Mach := m.push ⟨orW (andW m.r.f 4053) 61442, false⟩
def Mach.doPopF (m : Mach) : Mach := (m.popM.plain m.popV).setR { m.popM.r with f := andW m.popV.v 4053 }

set_option maxRecDepth 100000 in
set_option maxHeartbeats 3200000 in
theorem stack_push (w : World) (C : Phys) (lv : Value) (m : Mach) (h : Own w C lv m) (i : Inst) (r : IRow) (h0 : 0 ≤ i.op) (h1 : i.op ≤ 255) (hn : r.name = 9) (hg : GetOk i r.a) :
    Calls Tryz.prog 127 #[.pointer (some ⟨C.b, 0, none⟩), i.val, r.val] w fun e w' => e = .returned (.tuple #[]) ∧ After C lv w (m.doPush i r) w' := by
  obtain ⟨name, ra, rb, rm⟩ := r
  dsimp only at hn hg
  subst hn
  have hs := stIn h i ⟨9, ra, rb, rm⟩
  have hwf := getV_wf h i ra (tail := zeroV) ⟨by decide, by decide⟩
  have HG := Lib.hid hg
  have e7 := u8_and7 i.op h0 (by omega)
  clear h hg
  have xi := hs.i.row.cell
  have xr := hs.r.row.cell
  have HD := Lib.hid (show m.doPush i ⟨9, ra, rb, rm⟩ = (m.getM i ra).push (if pushesSP i ⟨9, ra, rb, rm⟩ then ⟨IntKind.u16.wrap ((m.getV i ra zeroV).v - 2), (m.getV i ra zeroV).t⟩ else m.getV i ra zeroV) from rfl)
  go_enter Tryz.func127, Tryz.ntmps127
  go_wp2_with fail
  generalize (w.alloc (.cells (instC i) 30)).alloc (.cells (rowC ⟨9, ra, rb, rm⟩) 47) = W0 at *
  have HA0 := Lib.hid hs.a
  have HI0 := Lib.hid hs.i
  have HR0 := Lib.hid hs.r
  refine (HG.out _ _ _ _ hs.o zeroV).mono ?_
  generalize m.getV i ra zeroV = v at HD hwf
  generalize m.getM i ra = m1 at HD
  obtain ⟨vv, vt⟩ := v
  obtain ⟨v0, v1⟩ := hwf
  dsimp only at v0 v1
  clear hs xi xr
  rintro e w2 ⟨rfl, lv2, h2, f2, k2⟩; dsimp only
  have HO2 := Lib.hid h2
  have HA2 := Lib.hid (HA0.out.trans ⟨f2, k2⟩)
  have xi := (HI0.out.step f2 k2).row.cell
  have xr := (HR0.out.step f2 k2).row.cell
  have hsz := (HR0.out.step f2 k2).row.lt
  have hsz2 := (HI0.out.step f2 k2).row.lt
  clear h2 f2 k2
  have fin : ∀ (lvx : Value) (wx : World) (x : V), ((pushesSP i ⟨9, ra, rb, rm⟩ = true ∧ x = ⟨IntKind.u16.wrap (vv - 2), vt⟩) ∨ (pushesSP i ⟨9, ra, rb, rm⟩ = false ∧ x = ⟨vv, vt⟩)) → Acc C lv w lvx wx → Own wx C lvx (m1.push x) → After C lv w (m.doPush i ⟨9, ra, rb, rm⟩) wx := by
    intro lvx wx x hx ha ho
    rw [HD.out]
    rcases hx with ⟨hp, rfl⟩ | ⟨hp, rfl⟩
    · rw [hp, if_pos rfl]; exact After.mk ho ha
    · rw [hp, if_neg (by decide)]; exact After.mk ho ha
  have FIN := Lib.hid fin
  clear fin
  have hcase : (ra = 22 ∧ i.op % 8 = 4) ∨ (ra = 22 ∧ ¬ i.op % 8 = 4) ∨ (ra = 2 ∧ i.mod = 3 ∧ i.rm = 4) ∨ (ra = 2 ∧ i.mod = 3 ∧ ¬ i.rm = 4) ∨ (ra = 2 ∧ ¬ i.mod = 3) ∨ (¬ ra = 22 ∧ ¬ ra = 2) := by omega
  rcases hcase with ⟨rfl, c1⟩ | ⟨rfl, c1⟩ | ⟨rfl, c1, c2⟩ | ⟨rfl, c1, c2⟩ | ⟨rfl, c1⟩ | ⟨c1, c2⟩
  · have HP := Lib.hid (show pushesSP i ⟨9, 22, rb, rm⟩ = true by simp [pushesSP, c1])
    rw [c1] at e7
    clear c1
    go_wp2_with fail
    refine (push_any _ _ _ _ (HO2.out.alloc _) ⟨IntKind.u16.wrap (vv - 2), vt⟩ ⟨wrap16_lo _, wrap16_hi _⟩).mono ?_
    rintro e w4 ⟨rfl, lv4, h4, f4, k4⟩; dsimp only
    have HO4 := Lib.hid h4
    have HA4 := Lib.hid ((HA2.out.alloc _).trans ⟨f4, k4⟩)
    clear h4 f4 k4
    go_wp2_with fail
    (first | go_end0 | (((try simp only [Exit.inBlock, Exit.then]); refine bodyPost_ret (results_none rfl _ _ _) rfl ?_)))
    exact ⟨rfl, FIN.out _ _ _ (Or.inl ⟨HP.out, rfl⟩) HA4.out HO4.out⟩
  · have HP := Lib.hid (show pushesSP i ⟨9, 22, rb, rm⟩ = false by simp [pushesSP, c1])
    have d1 : (i.op % 8 == 4) = false := by simpa using c1
    clear c1
    go_wp2_with fail
    refine (push_any _ _ _ _ (HO2.out.alloc _) ⟨vv, vt⟩ ⟨v0, v1⟩).mono ?_
    rintro e w4 ⟨rfl, lv4, h4, f4, k4⟩; dsimp only
    have HO4 := Lib.hid h4
    have HA4 := Lib.hid ((HA2.out.alloc _).trans ⟨f4, k4⟩)
    clear h4 f4 k4
    go_wp2_with fail
    (first | go_end0 | (((try simp only [Exit.inBlock, Exit.then]); refine bodyPost_ret (results_none rfl _ _ _) rfl ?_)))
    exact ⟨rfl, FIN.out _ _ _ (Or.inr ⟨HP.out, rfl⟩) HA4.out HO4.out⟩
  · have HP := Lib.hid (show pushesSP i ⟨9, 2, rb, rm⟩ = true by simp [pushesSP, c1, c2])
    have d1 : (i.mod == 3) = true := by simpa using c1
    have d2 : (i.rm == 4) = true := by simpa using c2
    clear c1 c2
    go_wp2_with fail
    refine (push_any _ _ _ _ (HO2.out.alloc _) ⟨IntKind.u16.wrap (vv - 2), vt⟩ ⟨wrap16_lo _, wrap16_hi _⟩).mono ?_
    rintro e w4 ⟨rfl, lv4, h4, f4, k4⟩; dsimp only
    have HO4 := Lib.hid h4
    have HA4 := Lib.hid ((HA2.out.alloc _).trans ⟨f4, k4⟩)
    clear h4 f4 k4
    go_wp2_with fail
    (first | go_end0 | (((try simp only [Exit.inBlock, Exit.then]); refine bodyPost_ret (results_none rfl _ _ _) rfl ?_)))
    exact ⟨rfl, FIN.out _ _ _ (Or.inl ⟨HP.out, rfl⟩) HA4.out HO4.out⟩
  · have HP := Lib.hid (show pushesSP i ⟨9, 2, rb, rm⟩ = false by simp [pushesSP, c2])
    have d1 : (i.mod == 3) = true := by simpa using c1
    have d2 : (i.rm == 4) = false := by simpa using c2
    clear c1 c2
    go_wp2_with fail
    refine (push_any _ _ _ _ (HO2.out.alloc _) ⟨vv, vt⟩ ⟨v0, v1⟩).mono ?_
    rintro e w4 ⟨rfl, lv4, h4, f4, k4⟩; dsimp only
    have HO4 := Lib.hid h4
    have HA4 := Lib.hid ((HA2.out.alloc _).trans ⟨f4, k4⟩)
    clear h4 f4 k4
    go_wp2_with fail
    (first | go_end0 | (((try simp only [Exit.inBlock, Exit.then]); refine bodyPost_ret (results_none rfl _ _ _) rfl ?_)))
    exact ⟨rfl, FIN.out _ _ _ (Or.inr ⟨HP.out, rfl⟩) HA4.out HO4.out⟩
  · have HP := Lib.hid (show pushesSP i ⟨9, 2, rb, rm⟩ = false by simp [pushesSP, c1])
    have d1 : (i.mod == 3) = false := by simpa using c1
    clear c1
    go_wp2_with fail
    refine (push_any _ _ _ _ (HO2.out.alloc _) ⟨vv, vt⟩ ⟨v0, v1⟩).mono ?_
    rintro e w4 ⟨rfl, lv4, h4, f4, k4⟩; dsimp only
    have HO4 := Lib.hid h4
    have HA4 := Lib.hid ((HA2.out.alloc _).trans ⟨f4, k4⟩)
    clear h4 f4 k4
    go_wp2_with fail
    (first | go_end0 | (((try simp only [Exit.inBlock, Exit.then]); refine bodyPost_ret (results_none rfl _ _ _) rfl ?_)))
    exact ⟨rfl, FIN.out _ _ _ (Or.inr ⟨HP.out, rfl⟩) HA4.out HO4.out⟩
  · have HP := Lib.hid (show pushesSP i ⟨9, ra, rb, rm⟩ = false by simp [pushesSP, c1, c2])
    have d1 : (ra == 22) = false := by simpa using c1
    have d2 : (ra == 2) = false := by simpa using c2
    clear c1 c2
    go_wp2_with fail
    refine (push_any _ _ _ _ (HO2.out.alloc _) ⟨vv, vt⟩ ⟨v0, v1⟩).mono ?_
    rintro e w4 ⟨rfl, lv4, h4, f4, k4⟩; dsimp only
    have HO4 := Lib.hid h4
    have HA4 := Lib.hid ((HA2.out.alloc _).trans ⟨f4, k4⟩)
    clear h4 f4 k4
    go_wp2_with fail
    (first | go_end0 | (((try simp only [Exit.inBlock, Exit.then]); refine bodyPost_ret (results_none rfl _ _ _) rfl ?_)))
    exact ⟨rfl, FIN.out _ _ _ (Or.inr ⟨HP.out, rfl⟩) HA4.out HO4.out⟩

set_option maxRecDepth 100000 in
set_option maxHeartbeats 1600000 in
theorem stack_pop (w : World) (C : Phys) (lv : Value) (m : Mach) (h : Own w C lv m) (i : Inst) (r : IRow) (hn : r.name = 10) (hp : PutOk i r.a) :
    Calls Tryz.prog 127 #[.pointer (some ⟨C.b, 0, none⟩), i.val, r.val] w fun e w' => e = .returned (.tuple #[]) ∧ After C lv w (m.doPop i r) w' := by
  obtain ⟨name, ra, rb, rm⟩ := r
  dsimp only at hn hp
  subst hn
  have hs := stIn h i ⟨10, ra, rb, rm⟩
  have hv := popV_wf hs.o
  have HP := Lib.hid hp
  clear h hp
  have xr := hs.r.row.cell
  have HD := Lib.hid (show m.doPop i ⟨10, ra, rb, rm⟩ = m.popM.putV i ra m.popV from rfl)
  go_enter Tryz.func127, Tryz.ntmps127
  go_wp2_with fail
  generalize (w.alloc (.cells (instC i) 30)).alloc (.cells (rowC ⟨10, ra, rb, rm⟩) 47) = W0 at *
  have HA0 := Lib.hid hs.a
  have HI0 := Lib.hid hs.i
  have HR0 := Lib.hid hs.r
  refine (pop_any _ _ _ _ hs.o).mono ?_
  generalize m.popV = v at HD hv
  generalize m.popM = m1 at HD
  obtain ⟨vv, vt⟩ := v
  clear hs xr
  rintro e w2 ⟨rfl, lv2, h2, f2, k2⟩; dsimp only
  have HO2 := Lib.hid h2
  have HA2 := Lib.hid (HA0.out.trans ⟨f2, k2⟩)
  have xi := (HI0.out.step f2 k2).row.cell
  have xr := (HR0.out.step f2 k2).row.cell
  have hsz := (HR0.out.step f2 k2).row.lt
  have hsz2 := (HI0.out.step f2 k2).row.lt
  clear h2 f2 k2
  go_wp2_with fail
  refine (HP.out _ _ _ _ (HO2.out.alloc _) ⟨vv, vt⟩ hv).mono ?_
  rintro e w4 ⟨rfl, lv4, h4, f4, k4⟩; dsimp only
  have HO4 := Lib.hid h4
  have HA4 := Lib.hid ((HA2.out.alloc _).trans ⟨f4, k4⟩)
  clear h4 f4 k4
  go_wp2_with fail
  (first | go_end0 | (((try simp only [Exit.inBlock, Exit.then]); refine bodyPost_ret (results_none rfl _ _ _) rfl ?_)))
  rw [HD.out]
  exact ⟨rfl, After.mk HO4.out HA4.out⟩

set_option maxRecDepth 100000 in
set_option maxHeartbeats 1600000 in
theorem stack_pushf (w : World) (C : Phys) (lv : Value) (m : Mach) (h : Own w C lv m) (i : Inst) (r : IRow) (hn : r.name = 42) :
    Calls Tryz.prog 127 #[.pointer (some ⟨C.b, 0, none⟩), i.val, r.val] w fun e w' => e = .returned (.tuple #[]) ∧ After C lv w m.doPushF w' := by
  obtain ⟨name, ra, rb, rm⟩ := r
  dsimp only at hn
  subst hn
  have hs := stIn h i ⟨42, ra, rb, rm⟩
  clear h
  have sr := hs.o.sees.r
  have sl := hs.o.row.lt
  have HD := Lib.hid (show m.doPushF = m.push ⟨orW (andW m.r.f 4053) 61442, false⟩ from rfl)
  have HW := Lib.hid (show V.wf ⟨orW (andW m.r.f 4053) 61442, false⟩ from ⟨or_lo _ _, or_hi _ _⟩)
  go_enter Tryz.func127, Tryz.ntmps127
  go_wp2_with fail
  generalize (w.alloc (.cells (instC i) 30)).alloc (.cells (rowC ⟨42, ra, rb, rm⟩) 47) = W0 at *
  have HO0 := Lib.hid hs.o
  have HA0 := Lib.hid hs.a
  refine (flagsWord_any m.r _).mono ?_
  clear hs sr sl
  rintro e w2 ⟨rfl, hb⟩; dsimp only
  have HO2 := Lib.hid (HO0.out.below hb)
  have HA2 := Lib.hid (HA0.out.below hb)
  clear hb
  go_wp2_with fail
  refine (push_any _ _ _ _ HO2.out ⟨orW (andW m.r.f 4053) 61442, false⟩ HW.out).mono ?_
  rintro e w4 ⟨rfl, lv4, h4, f4, k4⟩; dsimp only
  have HO4 := Lib.hid h4
  have HA4 := Lib.hid (HA2.out.trans ⟨f4, k4⟩)
  clear h4 f4 k4
  go_wp2_with fail
  (first | go_end0 | (((try simp only [Exit.inBlock, Exit.then]); refine bodyPost_ret (results_none rfl _ _ _) rfl ?_)))
  rw [HD.out]
  exact ⟨rfl, After.mk HO4.out HA4.out⟩

set_option maxRecDepth 100000 in
set_option maxHeartbeats 1600000 in
theorem stack_popf (w : World) (C : Phys) (lv : Value) (m : Mach) (h : Own w C lv m) (i : Inst) (r : IRow) (hn : r.name = 43) :
    Calls Tryz.prog 127 #[.pointer (some ⟨C.b, 0, none⟩), i.val, r.val] w fun e w' => e = .returned (.tuple #[]) ∧ After C lv w m.doPopF w' := by
  obtain ⟨name, ra, rb, rm⟩ := r
  dsimp only at hn
  subst hn
  have hs := stIn h i ⟨43, ra, rb, rm⟩
  clear h
  have HD := Lib.hid (show m.doPopF = (m.popM.plain m.popV).setR { (m.popM.plain m.popV).r with f := andW m.popV.v 4053 } from by rw [plain_r]; rfl)
  go_enter Tryz.func127, Tryz.ntmps127
  go_wp2_with fail
  generalize (w.alloc (.cells (instC i) 30)).alloc (.cells (rowC ⟨43, ra, rb, rm⟩) 47) = W0 at *
  have HA0 := Lib.hid hs.a
  refine (pop_any _ _ _ _ hs.o).mono ?_
  generalize m.popV = v at HD
  generalize m.popM = m1 at HD
  obtain ⟨vv, vt⟩ := v
  clear hs
  rintro e w2 ⟨rfl, lv2, h2, f2, k2⟩; dsimp only
  have HO2 := Lib.hid (h2.alloc (.cells (valC ⟨vv, vt⟩) 24))
  have HA2 := Lib.hid ((HA0.out.trans ⟨f2, k2⟩).alloc (.cells (valC ⟨vv, vt⟩) 24))
  clear h2 f2 k2
  go_wp2_with fail
  refine (plain_any _ _ _ _ HO2.out ⟨vv, vt⟩).mono ?_
  generalize m1.plain ⟨vv, vt⟩ = m2 at HD
  rintro e w3 ⟨rfl, lv3, h3, f3, k3⟩; dsimp only
  have HO3 := Lib.hid h3
  have HA3 := Lib.hid (HA2.out.trans ⟨f3, k3⟩)
  clear h3 f3 k3
  have HW := Lib.hid (show Regs.wf { m2.r with f := andW vv 4053 } from { HO3.out.wf.r with f := ⟨and_lo _ _, and_hi _ _⟩ })
  have sc := HO3.out.sees.c; have sf := HO3.out.sees.f; have sr := HO3.out.sees.r; have ss := HO3.out.sees.s; have sl := HO3.out.sees.l
  go_wp2_with fail
  refine (fromWord_any m2.r vv _).mono ?_
  rintro e w4 ⟨rfl, hb⟩; dsimp only
  have HO4 := Lib.hid (HO3.out.below hb)
  have HA4 := Lib.hid (HA3.out.below hb)
  clear sc sf sr ss sl; clear hb
  have sc := HO4.out.sees.c; have sf := HO4.out.sees.f; have sr := HO4.out.sees.r; have ss := HO4.out.sees.s; have sl := HO4.out.sees.l
  have ne : ¬ C.b = w4.heap.size := Nat.ne_of_lt sl
  have l4 : w.heap.size ≤ w4.heap.size := HA4.out.f.size
  go_wp2_with fail
  go_end0
  rw [HD.out]
  exact ⟨rfl, After.mk (((HO4.out.alloc _).putFresh HO4.out (Nat.le_refl _) _).putR _ HW.out) (((HA4.out.alloc _).putFresh l4 _).putR _)⟩
end Go.Proofs.YtcglkefaopgjeaaGreatDoor
