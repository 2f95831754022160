/- Parts of the proof, in one text: YtcglkefaopgjeaaGreatDoorJ9 YtcglkefaopgjeaaGreatDoorJA YtcglkefaopgjeaaGreatDoorJB YtcglkefaopgjeaaGreatDoorQ2 YtcglkefaopgjeaaGreatDoorS0 YtcglkefaopgjeaaGreatDoorQ3 YtcglkefaopgjeaaGreatDoorS1 YtcglkefaopgjeaaGreatDoorS2 YtcglkefaopgjeaaGreatDoorS3 YtcglkefaopgjeaaGreatDoorS4 YtcglkefaopgjeaaGreatDoorS8. Each part's own remark says what it proves; conditions: those of each theorem. -/
import Derived.Test.YtcglkefaopgjeaaGreatDoorJ8
import Derived.Test.YtcglkefaopgjeaaGreatDoorH4
import Derived.WalkSpells
import Derived.Test.YtcglkefaopgjeaaGreatDoorV1
import Derived.Deep.RegionLaw

/- Package core: Wide; package world: In, Out; package cpu: port. -/
namespace Go.Proofs.YtcglkefaopgjeaaGreatDoor
set_option linter.unusedSimpArgs false
set_option linter.unusedVariables false
open Go.RowKit

def wideB (op : Int) : Bool := op == 2 || op == 4 || op == 5 || op == 7 || op == 8 || op == 13 || op == 16 || op == 17 || op == 22 || op == 23
set_option maxHeartbeats 1600000 in
theorem wide_any (op : Int) (w : World) (h0 : 0 ≤ op) (h1 : op ≤ 24) : Calls Tryz.prog 23 #[.int .i64 op] w fun e w' => e = .returned (.bool (wideB op)) ∧ w = w' := by
  have hc : op = 0 ∨ op = 1 ∨ op = 2 ∨ op = 3 ∨ op = 4 ∨ op = 5 ∨ op = 6 ∨ op = 7 ∨ op = 8 ∨ op = 9 ∨ op = 10 ∨ op = 11 ∨ op = 12 ∨ op = 13 ∨ op = 14 ∨ op = 15 ∨ op = 16 ∨ op = 17 ∨ op = 18 ∨ op = 19 ∨ op = 20 ∨ op = 21 ∨ op = 22 ∨ op = 23 ∨ op = 24 := by omega
  clear h0 h1
  rcases hc with rfl | rfl | rfl | rfl | rfl | rfl | rfl | rfl | rfl | rfl | rfl | rfl | rfl | rfl | rfl | rfl | rfl | rfl | rfl | rfl | rfl | rfl | rfl | rfl | rfl
  all_goals
    go_enter Tryz.func23, Tryz.ntmps23
    go_wp2
    go_ret
    exact ⟨rfl, rfl⟩

set_option maxHeartbeats 800000 in
theorem out_any (w : World) (p : WPhys) (rs : List Int) (n : Nat) (l : List Ev) (h : WorldAt w p rs n l) (port v : Int) :
    Calls Tryz.prog 37 #[.pointer (some ⟨p.wb, 0, none⟩), .int .u16 port, .int .u16 v] w fun r w' => r = .returned (.tuple #[]) ∧ WPost p w rs n (noteL l ⟨2, port, v, 0, 0, 0, 0⟩) w' := by
  have H := Lib.hid h
  clear h
  go_enter Tryz.func37, Tryz.ntmps37
  go_wp2_with (go_at_call 82; refine (note_all _ _ _ _ _ H.out ⟨2, port, v, 0, 0, 0, 0⟩).mono ?_; rintro e w' ⟨rfl, hq⟩)
  go_end0
  exact ⟨rfl, hq⟩
def inV (rs : List Int) (i : Nat) (wide : Bool) : Int := if wide then nextV rs i else nextV rs i % 256
set_option maxHeartbeats 1600000 in
theorem in_any (w : World) (p : WPhys) (rs : List Int) (n : Nat) (l : List Ev) (h : WorldAt w p rs n l) (port : Int) (wide : Bool) (h0 : 0 ≤ nextV rs n) (h1 : nextV rs n ≤ 65535) :
    Calls Tryz.prog 181 #[.pointer (some ⟨p.wb, 0, none⟩), .int .u16 port, .bool wide] w fun r w' => r = .returned (.int .u16 (inV rs n wide)) ∧ WPost p w rs (nextI rs n) (noteL l ⟨1, port, inV rs n wide, 0, 0, 0, 0⟩) w' := by
  have H := Lib.hid h
  clear h
  cases wide with
  | true =>
    rw [show inV rs n true = nextV rs n from rfl]
    go_enter Tryz.func181, Tryz.ntmps181
    go_wp2_with (first | (go_at_call 203; refine (next_any _ _ _ _ _ H.out).mono ?_; rintro e w1 ⟨rfl, hw1, hf1⟩; have H1 := Lib.hid hw1; have F1 := Lib.hid hf1; clear hw1 hf1) | (go_at_call 82; refine (note_all _ _ _ _ _ H1.out ⟨1, port, nextV rs n, 0, 0, 0, 0⟩).mono ?_; rintro e w' ⟨rfl, hq⟩))
    go_ret
    exact ⟨rfl, hq.after F1.out⟩
  | false =>
    rw [show inV rs n false = nextV rs n % 256 from rfl]
    go_enter Tryz.func181, Tryz.ntmps181
    go_wp2_with (first | (go_at_call 203; refine (next_any _ _ _ _ _ H.out).mono ?_; rintro e w1 ⟨rfl, hw1, hf1⟩; have H1 := Lib.hid hw1; have F1 := Lib.hid hf1; clear hw1 hf1) | (go_at_call 85; refine (low_any _ _ h0 h1).mono ?_; rintro e w' ⟨rfl, rfl⟩) | (go_at_call 82; refine (note_all _ _ _ _ _ H1.out ⟨1, port, nextV rs n % 256, 0, 0, 0, 0⟩).mono ?_; rintro e w' ⟨rfl, hq⟩))
    go_ret
    exact ⟨rfl, hq.after F1.out⟩

theorem inV_wf {rs : List Int} {i : Nat} (h : 0 ≤ nextV rs i ∧ nextV rs i ≤ 65535) (b : Bool) : V.wf ⟨inV rs i b, false⟩ := by
  unfold inV V.wf
  dsimp only
  cases b
  · rw [if_neg (by decide)]; omega
  · rw [if_pos rfl]; exact h

def Mach.doIn (m : Mach) (i : Inst) (r : IRow) (t : V) : Mach :=
  let m1 := (m.getM i r.b).plain (m.getV i r.b t)
  if m1.state = 0 then ({ m1 with at_ := nextI m1.rs m1.at_, ev := noteL m1.ev ⟨1, (m.getV i r.b t).v, inV m1.rs m1.at_ (wideB r.a), 0, 0, 0, 0⟩ } : Mach).putV i r.a ⟨inV m1.rs m1.at_ (wideB r.a), false⟩ else m1
def Mach.doOut (m : Mach) (i : Inst) (r : IRow) (t : V) : Mach :=
  let m1 := (m.getM i r.a).plain (m.getV i r.a t)
  let m2 := (m1.getM i r.b).plain (m1.getV i r.b t)
  if m2.state = 0 then { m2 with ev := noteL m2.ev ⟨2, (m.getV i r.a t).v, (m1.getV i r.b t).v, 0, 0, 0, 0⟩ } else m2

/-- The boxes that port, move, do begin with. -/
structure DoIn3 (C : Phys) (lv : Value) (w : World) (m : Mach) (i : Inst) (r : IRow) (t : V) (W0 : World) : Prop where
  o : Own W0 C lv m
  a : Acc C lv w lv W0
  i : Box C lv W0 w.heap.size (instC i) 30
  r : Box C lv W0 (w.heap.size + 1) (rowC r) 47
  t : Box C lv W0 (w.heap.size + 1 + 1) (valC t) 24
theorem doIn3 {C : Phys} {lv : Value} {w : World} {m : Mach} (h : Own w C lv m) (i : Inst) (r : IRow) (t : V) : DoIn3 C lv w m i r t (((w.alloc (.cells (instC i) 30)).alloc (.cells (rowC r) 47)).alloc (.cells (valC t) 24)) := by
  have o1 := h.alloc (.cells (instC i) 30)
  have o2 := o1.alloc (.cells (rowC r) 47)
  have x2 := Box.new o1 (rowC r) 47
  have x3 := Box.new o2 (valC t) 24
  rw [World.size_alloc] at x2
  rw [World.size_alloc, World.size_alloc] at x3
  exact ⟨o2.alloc _, (((Acc.refl C lv w).alloc _).alloc _).alloc _, ((Box.new h _ _).alloc _).alloc _, x2.alloc _, x3⟩

set_option maxRecDepth 100000 in
set_option maxHeartbeats 1600000 in
theorem port_in (w : World) (C : Phys) (lv : Value) (m : Mach) (h : Own w C lv m) (i : Inst) (r : IRow) (t : V) (ht : t.wf) (hn : r.name = 78) (ha0 : 0 ≤ r.a) (ha1 : r.a ≤ 24) (hg : GetOk i r.b) (hp : PutOk i r.a)
    (hrs : ∀ (m' : Mach), m'.rs = m.rs → ∀ j, 0 ≤ nextV m'.rs j ∧ nextV m'.rs j ≤ 65535) (hgr : (m.getM i r.b).rs = m.rs) :
    Calls Tryz.prog 129 #[.pointer (some ⟨C.b, 0, none⟩), i.val, r.val, t.val] w fun e w' => e = .returned (.tuple #[]) ∧ After C lv w (m.doIn i r t) w' := by
  obtain ⟨name, ra, rb, rm⟩ := r
  dsimp only at hn hg hp ha0 ha1 hgr
  subst hn
  have hs := doIn3 h i ⟨78, ra, rb, rm⟩ t
  have HG := Lib.hid hg
  have HP := Lib.hid hp
  have hrs1 := hrs ((m.getM i rb).plain (m.getV i rb t)) (by rw [plain_rs, hgr])
  have hi1 := fun j b => inV_wf (hrs1 j) b
  clear h hg hp hrs hgr
  have xi := hs.i.row.cell
  have xr := hs.r.row.cell
  have xt := hs.t.row.cell
  have HD := Lib.hid (show m.doIn i ⟨78, ra, rb, rm⟩ t = (let m1 := (m.getM i rb).plain (m.getV i rb t); if m1.state = 0 then ({ m1 with at_ := nextI m1.rs m1.at_, ev := noteL m1.ev ⟨1, (m.getV i rb t).v, inV m1.rs m1.at_ (wideB ra), 0, 0, 0, 0⟩ } : Mach).putV i ra ⟨inV m1.rs m1.at_ (wideB ra), false⟩ else m1) from rfl)
  go_enter Tryz.func129, Tryz.ntmps129
  go_wp2_with fail
  generalize ((w.alloc (.cells (instC i) 30)).alloc (.cells (rowC ⟨78, ra, rb, rm⟩) 47)).alloc (.cells (valC t) 24) = W0 at *
  have HA0 := Lib.hid hs.a
  have HI0 := Lib.hid hs.i
  have HR0 := Lib.hid hs.r
  refine (HG.out _ _ _ _ hs.o t).mono ?_
  clear hs xi xr xt
  generalize m.getV i rb t = v at HD hrs1 hi1
  generalize m.getM i rb = m0 at HD hrs1 hi1
  rintro e w1 ⟨rfl, lv1, h1, f1, k1⟩; dsimp only
  have HO1 := Lib.hid h1
  have HA1 := Lib.hid (HA0.out.trans ⟨f1, k1⟩)
  have HI1 := Lib.hid (HI0.out.step f1 k1)
  have HR1 := Lib.hid (HR0.out.step f1 k1)
  clear h1 f1 k1
  go_wp2_with fail
  refine (plain_any _ _ _ _ HO1.out v).mono ?_
  generalize m0.plain v = m1 at HD hrs1 hi1
  have HRS := Lib.hid hrs1
  have HIV := Lib.hid hi1
  clear hrs1 hi1
  rintro e w2 ⟨rfl, lv2, h2, f2, k2⟩; dsimp only
  have HO2 := Lib.hid h2
  have HA2 := Lib.hid (HA1.out.trans ⟨f2, k2⟩)
  have HI2 := Lib.hid (HI1.out.step f2 k2)
  have HR2 := Lib.hid (HR1.out.step f2 k2)
  clear h2 f2 k2
  go_wp2_with fail
  refine (state_any _ _ _ _ HO2.out).mono ?_
  rintro e w' ⟨rfl, rfl⟩; dsimp only
  by_cases h0 : m1.state = 0
  · have hb : (m1.state == 0) = true := by simp [h0]
    have H0 := Lib.hid h0
    clear h0
    have xi := HI2.out.row.cell
    have c1 : w2.cell? ⟨w.heap.size + 1, 1, none⟩ = some (.int .i64 ra) := HR2.out.row.cell 1
    have c27 : w2.cell? ⟨C.b, 27, none⟩ = some (.pointer (some ⟨C.wb, 0, none⟩)) := (HO2.out.row.cell 27).trans (mcell27 C m1)
    go_upto_region 4 with fail
    go_region_held3 (fun w' => (∀ j, w'.cell? ⟨w.heap.size, j, none⟩ = (instC i)[j]?) ∧ w'.cell? ⟨w.heap.size + 1, 1, none⟩ = some (.int .i64 ra) ∧ w'.cell? ⟨C.b, 27, none⟩ = some (.pointer (some ⟨C.wb, 0, none⟩))) (go_keep) (first | (go_at_call 23; refine (wide_any ra _ ha0 ha1).mono ?_; rintro e w' ⟨rfl, rfl⟩) | (go_at_call 181; refine (in_any _ (C.wp lv2) m1.rs m1.at_ m1.ev HO2.out.drew.wor v.v (wideB ra) (HRS.out _).1 (HRS.out _).2).mono ?_; rintro e w4 ⟨rfl, hp⟩; obtain ⟨lv4, h4, f4, k4⟩ := Own.world (m := m1) HO2.out.drew hp; have HO4 := Lib.hid h4; have HA4 := Lib.hid (HA2.out.drew.trans ⟨f4, k4⟩); have HI4 := Lib.hid (HI2.out.drew.step f4 k4); have HR4 := Lib.hid (HR2.out.drew.step f4 k4); have z1 := HI4.out.row.cell; have z2 : w4.cell? ⟨w.heap.size + 1, 1, none⟩ = some (.int .i64 ra) := HR4.out.row.cell 1; have z3 : w4.cell? ⟨C.b, 27, none⟩ = some (.pointer (some ⟨C.wb, 0, none⟩)) := (HO4.out.row.cell 27).trans rfl; clear hp h4 f4 k4) | (go_at_call 179; refine (HP.out _ _ _ _ HO4.out ⟨inV m1.rs m1.at_ (wideB ra), false⟩ (HIV.out _ _)).mono ?_; rintro e w5 ⟨rfl, lv5, h5, f5, k5⟩; have HO5 := Lib.hid h5; have HA5 := Lib.hid (HA4.out.trans ⟨f5, k5⟩); have y1 := (HI4.out.step f5 k5).row.cell; have y2 : w5.cell? ⟨w.heap.size + 1, 1, none⟩ = some (.int .i64 ra) := (HR4.out.step f5 k5).row.cell 1; have y3 : w5.cell? ⟨C.b, 27, none⟩ = some (.pointer (some ⟨C.wb, 0, none⟩)) := (HO5.out.row.cell 27).trans rfl; clear h5 f5 k5))
    all_goals
    go_wp2_with fail
    (first | go_end0 | (((try simp only [Exit.inBlock, Exit.then]); refine bodyPost_ret (results_none rfl _ _ _) rfl ?_)))
    rw [HD.out]
    rw [if_pos H0.out]
    exact ⟨rfl, After.mk HO5.out HA5.out⟩
  · have hb : (m1.state == 0) = false := by simp [h0]
    have H0 := Lib.hid h0
    clear h0
    go_wp2_with fail
    (first | go_end0 | (((try simp only [Exit.inBlock, Exit.then]); refine bodyPost_ret (results_none rfl _ _ _) rfl ?_)))
    rw [HD.out]
    rw [if_neg H0.out]
    exact ⟨rfl, After.mk HO2.out HA2.out⟩

/-- What is known behind some of a function's work: the machine is m', the three boxes are as they were. -/
def St3 (C : Phys) (lv : Value) (w0 : World) (i : Inst) (r : IRow) (t : V) (m' : Mach) (w : World) : Prop :=
  ∃ lv', Own w C lv' m' ∧ Acc C lv w0 lv' w ∧ Box C lv' w w0.heap.size (instC i) 30 ∧ Box C lv' w (w0.heap.size + 1) (rowC r) 47 ∧ Box C lv' w (w0.heap.size + 1 + 1) (valC t) 24
section
variable {C : Phys} {lv : Value} {w0 w : World} {i : Inst} {r : IRow} {t : V} {m m' : Mach}
theorem St3.drew (h : St3 C lv w0 i r t m w) : St3 C lv w0 i r t m w.drew := by
  obtain ⟨l, a, b, c, d, e⟩ := h
  exact ⟨l, a.drew, b.drew, c.drew, d.drew, e.drew⟩
theorem St3.alloc (h : St3 C lv w0 i r t m w) (o : Obj) : St3 C lv w0 i r t m (w.alloc o) := by
  obtain ⟨l, a, b, c, d, e⟩ := h
  exact ⟨l, a.alloc o, b.alloc o, c.alloc o, d.alloc o, e.alloc o⟩
theorem St3.below {w' : World} (h : St3 C lv w0 i r t m w) (hb : Below w.heap.size w w') : St3 C lv w0 i r t m w' := by
  obtain ⟨l, a, b, c, d, e⟩ := h
  exact ⟨l, a.below hb, b.below hb, c.below hb, d.below hb, e.below hb⟩
theorem St3.after {w' : World} {lv1 : Value} (ho : Own w C lv1 m) (h : Acc C lv w0 lv1 w) (c : Box C lv1 w w0.heap.size (instC i) 30) (d : Box C lv1 w (w0.heap.size + 1) (rowC r) 47) (e : Box C lv1 w (w0.heap.size + 1 + 1) (valC t) 24) (ha : After C lv1 w m' w') : St3 C lv w0 i r t m' w' := by
  obtain ⟨l, h1, f1, k1⟩ := ha
  exact ⟨l, h1, h.trans ⟨f1, k1⟩, c.step f1 k1, d.step f1 k1, e.step f1 k1⟩
theorem St3.calls {f : FuncId} {args : Array Value} {v : Value} (hc : ∀ (w : World) (lv : Value), Own w C lv m → Calls Tryz.prog f args w fun e w' => e = .returned v ∧ After C lv w m' w') (w : World) (h : St3 C lv w0 i r t m w) :
    Calls Tryz.prog f args w fun e w' => e = .returned v ∧ St3 C lv w0 i r t m' w' := by
  obtain ⟨l, a, b, c, d, e⟩ := h
  exact (hc w l a).mono fun _ _ ⟨he, ha⟩ => ⟨he, St3.after a b c d e ha⟩
theorem St3.ci (h : St3 C lv w0 i r t m w) (j : Nat) : w.cell? ⟨w0.heap.size, j, none⟩ = (instC i)[j]? := by
  obtain ⟨l, a, b, c, d, e⟩ := h
  exact c.row.cell j
theorem St3.cr (h : St3 C lv w0 i r t m w) (j : Nat) : w.cell? ⟨w0.heap.size + 1, j, none⟩ = (rowC r)[j]? := by
  obtain ⟨l, a, b, c, d, e⟩ := h
  exact d.row.cell j
theorem St3.ct (h : St3 C lv w0 i r t m w) (j : Nat) : w.cell? ⟨w0.heap.size + 1 + 1, j, none⟩ = (valC t)[j]? := by
  obtain ⟨l, a, b, c, d, e⟩ := h
  exact e.row.cell j
theorem St3.fin (h : St3 C lv w0 i r t m w) : After C lv w0 m w := by
  obtain ⟨l, a, b, c, d, e⟩ := h
  exact After.mk a b
theorem St3.sees (h : St3 C lv w0 i r t m w) : Sees w C m := by
  obtain ⟨l, a, b, c, d, e⟩ := h
  exact a.sees
theorem St3.lt (h : St3 C lv w0 i r t m w) : w0.heap.size < w.heap.size ∧ w0.heap.size + 1 < w.heap.size ∧ w0.heap.size + 1 + 1 < w.heap.size := by
  obtain ⟨l, a, b, c, d, e⟩ := h
  exact ⟨c.row.lt, d.row.lt, e.row.lt⟩
end
theorem st3 {C : Phys} {lv : Value} {w : World} {m : Mach} (h : Own w C lv m) (i : Inst) (r : IRow) (t : V) : St3 C lv w i r t m (((w.alloc (.cells (instC i) 30)).alloc (.cells (rowC r) 47)).alloc (.cells (valC t) 24)) :=
  have d := doIn3 h i r t
  ⟨lv, d.o, d.a, d.i, d.r, d.t⟩

set_option maxRecDepth 100000 in
set_option maxHeartbeats 1600000 in
theorem port_out (w : World) (C : Phys) (lv : Value) (m : Mach) (h : Own w C lv m) (i : Inst) (r : IRow) (t : V) (hn : r.name = 79) (hga : GetOk i r.a) (hgb : GetOk i r.b) :
    Calls Tryz.prog 129 #[.pointer (some ⟨C.b, 0, none⟩), i.val, r.val, t.val] w fun e w' => e = .returned (.tuple #[]) ∧ After C lv w (m.doOut i r t) w' := by
  obtain ⟨name, ra, rb, rm⟩ := r
  dsimp only at hn hga hgb
  subst hn
  have hs := st3 h i ⟨79, ra, rb, rm⟩ t
  have HD := Lib.hid (show m.doOut i ⟨79, ra, rb, rm⟩ t = (let m1 := (m.getM i ra).plain (m.getV i ra t); let m2 := (m1.getM i rb).plain (m1.getV i rb t); if m2.state = 0 then ({ m2 with ev := noteL m2.ev ⟨2, (m.getV i ra t).v, (m1.getV i rb t).v, 0, 0, 0, 0⟩ } : Mach) else m2) from rfl)
  obtain ⟨v, hv⟩ : ∃ v, m.getV i ra t = v := ⟨_, rfl⟩
  obtain ⟨m0, hm0⟩ : ∃ m0, m.getM i ra = m0 := ⟨_, rfl⟩
  obtain ⟨m1, hm1⟩ : ∃ m1, m0.plain v = m1 := ⟨_, rfl⟩
  obtain ⟨u, hu⟩ : ∃ u, m1.getV i rb t = u := ⟨_, rfl⟩
  obtain ⟨m2, hm2⟩ : ∃ m2, m1.getM i rb = m2 := ⟨_, rfl⟩
  obtain ⟨m3, hm3⟩ : ∃ m3, m2.plain u = m3 := ⟨_, rfl⟩
  have HE := Lib.hid (show m.doOut i ⟨79, ra, rb, rm⟩ t = if m3.state = 0 then ({ m3 with ev := noteL m3.ev ⟨2, v.v, u.v, 0, 0, 0, 0⟩ } : Mach) else m3 from by rw [HD.out, ← hm3, ← hm2, ← hu, ← hm1, ← hm0, ← hv])
  have KA := Lib.hid (St3.calls (lv := lv) (w0 := w) (i := i) (r := ⟨79, ra, rb, rm⟩) (t := t) (fun w lv h => hm0 ▸ hv ▸ hga w C lv m h t))
  have KP := Lib.hid (St3.calls (lv := lv) (w0 := w) (i := i) (r := ⟨79, ra, rb, rm⟩) (t := t) (fun w lv h => hm1 ▸ plain_any w C lv m0 h v))
  have KB := Lib.hid (St3.calls (lv := lv) (w0 := w) (i := i) (r := ⟨79, ra, rb, rm⟩) (t := t) (fun w lv h => hm2 ▸ hu ▸ hgb w C lv m1 h t))
  have KQ := Lib.hid (St3.calls (lv := lv) (w0 := w) (i := i) (r := ⟨79, ra, rb, rm⟩) (t := t) (fun w lv h => hm3 ▸ plain_any w C lv m2 h u))
  clear h hga hgb hv hm0 hm1 hu hm2 hm3 HD
  have xi := hs.ci
  have xr := hs.cr
  have xt := hs.ct
  go_enter Tryz.func129, Tryz.ntmps129
  go_wp2_with fail
  generalize ((w.alloc (.cells (instC i) 30)).alloc (.cells (rowC ⟨79, ra, rb, rm⟩) 47)).alloc (.cells (valC t) 24) = W0 at *
  have S0 := Lib.hid hs.drew
  clear hs
  go_region_held3 (fun w' => (∀ j, w'.cell? ⟨w.heap.size, j, none⟩ = (instC i)[j]?) ∧ (∀ j, w'.cell? ⟨w.heap.size + 1, j, none⟩ = (rowC ⟨79, ra, rb, rm⟩)[j]?) ∧ (∀ j, w'.cell? ⟨w.heap.size + 1 + 1, j, none⟩ = (valC t)[j]?)) (go_keep) (first | (go_at_call 66; with_reducible refine (KA.out _ ?_).mono ?_; (focus (refine Hid.out ?_; assumption)); rintro e w1 ⟨rfl, hq⟩; have y1 := hq.ci; have y2 := hq.cr; have y3 := hq.ct; have S1 := Lib.hid hq; clear hq) | (go_at_call 115; with_reducible refine (KP.out _ ?_).mono ?_; (focus (refine Hid.out ?_; assumption)); rintro e w2 ⟨rfl, hq⟩; have y4 := hq.ci; have y5 := hq.cr; have y6 := hq.ct; have S2 := Lib.hid hq; clear hq) | (go_at_call 66; with_reducible refine (KB.out _ ?_).mono ?_; (focus (refine Hid.out ?_; assumption)); rintro e w3 ⟨rfl, hq⟩; have y7 := hq.ci; have y8 := hq.cr; have y9 := hq.ct; have S3 := Lib.hid hq; clear hq) | (go_at_call 115; with_reducible refine (KQ.out _ ?_).mono ?_; (focus (refine Hid.out ?_; assumption)); rintro e w4 ⟨rfl, hq⟩; have z1 := hq.ci; have z2 := hq.cr; have z3 := hq.ct; have S4 := Lib.hid hq; clear hq))
  all_goals
    obtain ⟨lv4, o4, a4, _, _, _⟩ := S4.out
    have HO4 := Lib.hid o4
    have HA4 := Lib.hid a4
    clear o4 a4
    go_wp2_with fail
    refine (state_any _ _ _ _ HO4.out).mono ?_
    rintro e w' ⟨rfl, rfl⟩; dsimp only
    by_cases h0 : m3.state = 0
    · have hb : (m3.state == 0) = true := by simp [h0]
      have H0 := Lib.hid h0
      clear h0
      have c27 : w4.cell? ⟨C.b, 27, none⟩ = some (.pointer (some ⟨C.wb, 0, none⟩)) := (HO4.out.row.cell 27).trans (mcell27 C m3)
      go_wp2_with fail
      refine (out_any _ (C.wp lv4) m3.rs m3.at_ m3.ev HO4.out.wor v.v u.v).mono ?_
      rintro e w5 ⟨rfl, hp⟩; dsimp only
      obtain ⟨lv5, h5, f5, k5⟩ := Own.world (m := m3) HO4.out hp
      have HO5 := Lib.hid h5
      have HA5 := Lib.hid (HA4.out.trans ⟨f5, k5⟩)
      clear hp h5 f5 k5
      go_wp2_with fail
      (first | go_end0 | (((try simp only [Exit.inBlock, Exit.then]); refine bodyPost_ret (results_none rfl _ _ _) rfl ?_)))
      rw [HE.out, if_pos H0.out]
      exact ⟨rfl, After.mk HO5.out HA5.out⟩
    · have hb : (m3.state == 0) = false := by simp [h0]
      have H0 := Lib.hid h0
      clear h0
      go_wp2_with fail
      (first | go_end0 | (((try simp only [Exit.inBlock, Exit.then]); refine bodyPost_ret (results_none rfl _ _ _) rfl ?_)))
      rw [HE.out, if_neg H0.out]
      exact ⟨rfl, After.mk HO4.out HA4.out⟩
end Go.Proofs.YtcglkefaopgjeaaGreatDoor

/- Package cpu: move, of MOV. -/
namespace Go.Proofs.YtcglkefaopgjeaaGreatDoor
set_option linter.unusedSimpArgs false
set_option linter.unusedVariables false
open Go.RowKit

def Mach.doMov (m : Mach) (i : Inst) (r : IRow) (t : V) : Mach := (m.getM i r.b).putV i r.a (m.getV i r.b t)

set_option maxRecDepth 100000 in
set_option maxHeartbeats 1600000 in
theorem move_mov (w : World) (C : Phys) (lv : Value) (m : Mach) (h : Own w C lv m) (i : Inst) (r : IRow) (t : V) (ht : t.wf) (hn : r.name = 35) (hg : GetOk i r.b) (hp : PutOk i r.a) :
    Calls Tryz.prog 128 #[.pointer (some ⟨C.b, 0, none⟩), i.val, r.val, t.val] w fun e w' => e = .returned (.tuple #[]) ∧ After C lv w (m.doMov i r t) w' := by
  obtain ⟨name, ra, rb, rm⟩ := r
  dsimp only at hn hg hp
  subst hn
  have hs := st3 h i ⟨35, ra, rb, rm⟩ t
  have hv0 := getV_wf h i rb ht
  obtain ⟨v, hv⟩ : ∃ v, m.getV i rb t = v := ⟨_, rfl⟩
  obtain ⟨m1, hm1⟩ : ∃ m1, m.getM i rb = m1 := ⟨_, rfl⟩
  obtain ⟨m2, hm2⟩ : ∃ m2, m1.putV i ra v = m2 := ⟨_, rfl⟩
  have HE := Lib.hid (show m.doMov i ⟨35, ra, rb, rm⟩ t = m2 from by rw [← hm2, ← hm1, ← hv]; rfl)
  rw [hv] at hv0
  have KG := Lib.hid (St3.calls (lv := lv) (w0 := w) (i := i) (r := ⟨35, ra, rb, rm⟩) (t := t) (fun w lv h => hm1 ▸ hv ▸ hg w C lv m h t))
  have KP := Lib.hid (St3.calls (lv := lv) (w0 := w) (i := i) (r := ⟨35, ra, rb, rm⟩) (t := t) (fun w lv h => hm2 ▸ hp w C lv m1 h v hv0))
  clear h hg hp hv hm1 hm2 hv0
  have xi := hs.ci
  have xr := hs.cr
  have xt := hs.ct
  go_enter Tryz.func128, Tryz.ntmps128
  go_wp2_with fail
  generalize ((w.alloc (.cells (instC i) 30)).alloc (.cells (rowC ⟨35, ra, rb, rm⟩) 47)).alloc (.cells (valC t) 24) = W0 at *
  have S0 := Lib.hid hs.drew
  clear hs
  go_region_held3 (fun w' => (∀ j, w'.cell? ⟨w.heap.size, j, none⟩ = (instC i)[j]?) ∧ (∀ j, w'.cell? ⟨w.heap.size + 1, j, none⟩ = (rowC ⟨35, ra, rb, rm⟩)[j]?) ∧ (∀ j, w'.cell? ⟨w.heap.size + 1 + 1, j, none⟩ = (valC t)[j]?)) (go_keep) (first | (go_at_call 66; with_reducible refine (KG.out _ ?_).mono ?_; (focus (refine Hid.out ?_; assumption)); rintro e w1 ⟨rfl, hq⟩; have y1 := hq.ci; have y2 := hq.cr; have y3 := hq.ct; have S1 := Lib.hid hq; clear hq) | (go_at_call 179; with_reducible refine (KP.out _ ?_).mono ?_; (focus (refine Hid.out ?_; assumption)); rintro e w2 ⟨rfl, hq⟩; have y4 := hq.ci; have y5 := hq.cr; have y6 := hq.ct; have S2 := Lib.hid hq; clear hq))
  all_goals
    go_wp2_with fail
    (first | go_end0 | (((try simp only [Exit.inBlock, Exit.then]); refine bodyPost_ret (results_none rfl _ _ _) rfl ?_)))
    rw [HE.out]
    exact ⟨rfl, S2.out.fin⟩
end Go.Proofs.YtcglkefaopgjeaaGreatDoor

/- Package cpu: do. -/
namespace Go.Proofs.YtcglkefaopgjeaaGreatDoor
set_option linter.unusedSimpArgs false
set_option linter.unusedVariables false
open Go.RowKit

set_option maxRecDepth 100000 in
set_option maxHeartbeats 3200000 in
theorem do_stack (w : World) (C : Phys) (lv : Value) (m m' : Mach) (h : Own w C lv m) (i : Inst) (r : IRow) (t : V) (hn : r.name = 9 ∨ r.name = 10 ∨ r.name = 42 ∨ r.name = 43)
    (hc : ∀ (w : World) (lv : Value), Own w C lv m → Calls Tryz.prog 127 #[.pointer (some ⟨C.b, 0, none⟩), i.val, r.val] w fun e w' => e = .returned (.tuple #[]) ∧ After C lv w m' w') :
    Calls Tryz.prog 75 #[.pointer (some ⟨C.b, 0, none⟩), i.val, r.val, t.val] w fun e w' => e = .returned (.tuple #[]) ∧ After C lv w m' w' := by
  obtain ⟨name, ra, rb, rm⟩ := r
  dsimp only at hn
  have hs := st3 h i ⟨name, ra, rb, rm⟩ t
  have KC := Lib.hid (St3.calls (lv := lv) (w0 := w) (i := i) (r := ⟨name, ra, rb, rm⟩) (t := t) hc)
  clear h hc
  have xi := hs.ci
  have xr := hs.cr
  have xt := hs.ct
  rcases hn with rfl | rfl | rfl | rfl
  all_goals
    go_enter Tryz.func75, Tryz.ntmps75
    go_wp2_with fail
    refine (KC.out _ hs).mono ?_
    clear hs xi xr xt
    rintro e w1 ⟨rfl, hq⟩; dsimp only
    have S1 := Lib.hid hq
    clear hq
    go_wp2_with fail
    (first | go_end0 | (((try simp only [Exit.inBlock, Exit.then]); refine bodyPost_ret (results_none rfl _ _ _) rfl ?_)))
    exact ⟨rfl, S1.out.fin⟩

set_option maxRecDepth 100000 in
set_option maxHeartbeats 3200000 in
theorem do_move (w : World) (C : Phys) (lv : Value) (m m' : Mach) (h : Own w C lv m) (i : Inst) (r : IRow) (t : V) (hn : r.name = 35 ∨ r.name = 34 ∨ r.name = 36 ∨ r.name = 58 ∨ r.name = 59 ∨ r.name = 72)
    (hc : ∀ (w : World) (lv : Value), Own w C lv m → Calls Tryz.prog 128 #[.pointer (some ⟨C.b, 0, none⟩), i.val, r.val, t.val] w fun e w' => e = .returned (.tuple #[]) ∧ After C lv w m' w') :
    Calls Tryz.prog 75 #[.pointer (some ⟨C.b, 0, none⟩), i.val, r.val, t.val] w fun e w' => e = .returned (.tuple #[]) ∧ After C lv w m' w' := by
  obtain ⟨name, ra, rb, rm⟩ := r
  dsimp only at hn
  have hs := st3 h i ⟨name, ra, rb, rm⟩ t
  have KC := Lib.hid (St3.calls (lv := lv) (w0 := w) (i := i) (r := ⟨name, ra, rb, rm⟩) (t := t) hc)
  clear h hc
  have xi := hs.ci
  have xr := hs.cr
  have xt := hs.ct
  rcases hn with rfl | rfl | rfl | rfl | rfl | rfl
  all_goals
    go_enter Tryz.func75, Tryz.ntmps75
    go_wp2_with fail
    refine (KC.out _ hs).mono ?_
    clear hs xi xr xt
    rintro e w1 ⟨rfl, hq⟩; dsimp only
    have S1 := Lib.hid hq
    clear hq
    go_wp2_with fail
    (first | go_end0 | (((try simp only [Exit.inBlock, Exit.then]); refine bodyPost_ret (results_none rfl _ _ _) rfl ?_)))
    exact ⟨rfl, S1.out.fin⟩

set_option maxRecDepth 100000 in
set_option maxHeartbeats 3200000 in
theorem do_port (w : World) (C : Phys) (lv : Value) (m m' : Mach) (h : Own w C lv m) (i : Inst) (r : IRow) (t : V) (hn : r.name = 78 ∨ r.name = 79)
    (hc : ∀ (w : World) (lv : Value), Own w C lv m → Calls Tryz.prog 129 #[.pointer (some ⟨C.b, 0, none⟩), i.val, r.val, t.val] w fun e w' => e = .returned (.tuple #[]) ∧ After C lv w m' w') :
    Calls Tryz.prog 75 #[.pointer (some ⟨C.b, 0, none⟩), i.val, r.val, t.val] w fun e w' => e = .returned (.tuple #[]) ∧ After C lv w m' w' := by
  obtain ⟨name, ra, rb, rm⟩ := r
  dsimp only at hn
  have hs := st3 h i ⟨name, ra, rb, rm⟩ t
  have KC := Lib.hid (St3.calls (lv := lv) (w0 := w) (i := i) (r := ⟨name, ra, rb, rm⟩) (t := t) hc)
  clear h hc
  have xi := hs.ci
  have xr := hs.cr
  have xt := hs.ct
  rcases hn with rfl | rfl
  all_goals
    go_enter Tryz.func75, Tryz.ntmps75
    go_wp2_with fail
    refine (KC.out _ hs).mono ?_
    clear hs xi xr xt
    rintro e w1 ⟨rfl, hq⟩; dsimp only
    have S1 := Lib.hid hq
    clear hq
    go_wp2_with fail
    (first | go_end0 | (((try simp only [Exit.inBlock, Exit.then]); refine bodyPost_ret (results_none rfl _ _ _) rfl ?_)))
    exact ⟨rfl, S1.out.fin⟩

set_option maxRecDepth 100000 in
set_option maxHeartbeats 3200000 in
theorem do_flags (w : World) (C : Phys) (lv : Value) (m m' : Mach) (h : Own w C lv m) (i : Inst) (r : IRow) (t : V) (hn : r.name = 90 ∨ r.name = 91 ∨ r.name = 92 ∨ r.name = 93 ∨ r.name = 94 ∨ r.name = 95 ∨ r.name = 83 ∨ r.name = 82 ∨ r.name = 45 ∨ r.name = 44 ∨ r.name = 37 ∨ r.name = 38)
    (hc : ∀ (w : World) (lv : Value), Own w C lv m → Calls Tryz.prog 130 #[.pointer (some ⟨C.b, 0, none⟩), r.val] w fun e w' => e = .returned (.tuple #[]) ∧ After C lv w m' w') :
    Calls Tryz.prog 75 #[.pointer (some ⟨C.b, 0, none⟩), i.val, r.val, t.val] w fun e w' => e = .returned (.tuple #[]) ∧ After C lv w m' w' := by
  obtain ⟨name, ra, rb, rm⟩ := r
  dsimp only at hn
  have hs := st3 h i ⟨name, ra, rb, rm⟩ t
  have KC := Lib.hid (St3.calls (lv := lv) (w0 := w) (i := i) (r := ⟨name, ra, rb, rm⟩) (t := t) hc)
  clear h hc
  have xi := hs.ci
  have xr := hs.cr
  have xt := hs.ct
  rcases hn with rfl | rfl | rfl | rfl | rfl | rfl | rfl | rfl | rfl | rfl | rfl | rfl
  all_goals
    go_enter Tryz.func75, Tryz.ntmps75
    go_wp2_with fail
    refine (KC.out _ hs).mono ?_
    clear hs xi xr xt
    rintro e w1 ⟨rfl, hq⟩; dsimp only
    have S1 := Lib.hid hq
    clear hq
    go_wp2_with fail
    (first | go_end0 | (((try simp only [Exit.inBlock, Exit.then]); refine bodyPost_ret (results_none rfl _ _ _) rfl ?_)))
    exact ⟨rfl, S1.out.fin⟩

set_option maxRecDepth 100000 in
set_option maxHeartbeats 3200000 in
theorem do_numbers (w : World) (C : Phys) (lv : Value) (m m' : Mach) (h : Own w C lv m) (i : Inst) (r : IRow) (t : V) (hn : r.name = 1 ∨ r.name = 2 ∨ r.name = 3 ∨ r.name = 4 ∨ r.name = 5 ∨ r.name = 6 ∨ r.name = 7 ∨ r.name = 8 ∨ r.name = 11 ∨ r.name = 12 ∨ r.name = 13 ∨ r.name = 14 ∨ r.name = 15 ∨ r.name = 16 ∨ r.name = 33 ∨ r.name = 63 ∨ r.name = 64 ∨ r.name = 65 ∨ r.name = 66 ∨ r.name = 67 ∨ r.name = 68 ∨ r.name = 69 ∨ r.name = 70 ∨ r.name = 71 ∨ r.name = 84 ∨ r.name = 85 ∨ r.name = 86 ∨ r.name = 87 ∨ r.name = 88 ∨ r.name = 89)
    (hc : ∀ (w : World) (lv : Value), Own w C lv m → Calls Tryz.prog 131 #[.pointer (some ⟨C.b, 0, none⟩), i.val, r.val, t.val] w fun e w' => e = .returned (.tuple #[]) ∧ After C lv w m' w') :
    Calls Tryz.prog 75 #[.pointer (some ⟨C.b, 0, none⟩), i.val, r.val, t.val] w fun e w' => e = .returned (.tuple #[]) ∧ After C lv w m' w' := by
  obtain ⟨name, ra, rb, rm⟩ := r
  dsimp only at hn
  have hs := st3 h i ⟨name, ra, rb, rm⟩ t
  have KC := Lib.hid (St3.calls (lv := lv) (w0 := w) (i := i) (r := ⟨name, ra, rb, rm⟩) (t := t) hc)
  clear h hc
  have xi := hs.ci
  have xr := hs.cr
  have xt := hs.ct
  rcases hn with rfl | rfl | rfl | rfl | rfl | rfl | rfl | rfl | rfl | rfl | rfl | rfl | rfl | rfl | rfl | rfl | rfl | rfl | rfl | rfl | rfl | rfl | rfl | rfl | rfl | rfl | rfl | rfl | rfl | rfl
  all_goals
    go_enter Tryz.func75, Tryz.ntmps75
    go_wp2_with fail
    refine (KC.out _ hs).mono ?_
    clear hs xi xr xt
    rintro e w1 ⟨rfl, hq⟩; dsimp only
    have S1 := Lib.hid hq
    clear hq
    go_wp2_with fail
    (first | go_end0 | (((try simp only [Exit.inBlock, Exit.then]); refine bodyPost_ret (results_none rfl _ _ _) rfl ?_)))
    exact ⟨rfl, S1.out.fin⟩

set_option maxRecDepth 100000 in
set_option maxHeartbeats 1600000 in
theorem do_idle (w : World) (C : Phys) (lv : Value) (m : Mach) (h : Own w C lv m) (i : Inst) (r : IRow) (t : V) (hn : r.name = 73 ∨ r.name = 41) :
    Calls Tryz.prog 75 #[.pointer (some ⟨C.b, 0, none⟩), i.val, r.val, t.val] w fun e w' => e = .returned (.tuple #[]) ∧ After C lv w m w' := by
  obtain ⟨name, ra, rb, rm⟩ := r
  dsimp only at hn
  have hs := st3 h i ⟨name, ra, rb, rm⟩ t
  clear h
  have xr := hs.cr
  rcases hn with rfl | rfl
  all_goals
    go_enter Tryz.func75, Tryz.ntmps75
    go_wp2_with fail
    (first | go_end0 | (((try simp only [Exit.inBlock, Exit.then]); refine bodyPost_ret (results_none rfl _ _ _) rfl ?_)))
    exact ⟨rfl, hs.fin⟩
end Go.Proofs.YtcglkefaopgjeaaGreatDoor

/- Texts as lists of numbers: words, parts, and where a word stands: plain laws, no walk. -/
namespace Go.Proofs.YtcglkefaopgjeaaGreatDoor
set_option linter.unusedSimpArgs false
set_option linter.unusedVariables false
open Go.RowKit

/-- A text of numbers. -/
def B (l : List Nat) : ByteArray := ⟨⟨l.map UInt8.ofNat⟩⟩
def bytesOk (l : List Nat) : Prop := ∀ x ∈ l, x < 256
theorem B_size (l : List Nat) : (B l).size = l.length := by show (l.map UInt8.ofNat).toArray.size = _; simp
theorem B_get (l : List Nat) (hl : bytesOk l) (i : Nat) (h : i < (B l).size) : ((B l)[i]'h).toNat = l[i]'(by rw [B_size] at h; exact h) := by
  have e : (B l)[i]'h = UInt8.ofNat (l[i]'(by rw [B_size] at h; exact h)) := by
    show (B l).data[i]'h = _
    simp [B]
  rw [e]
  have := hl (l[i]'(by rw [B_size] at h; exact h)) (List.getElem_mem _)
  rw [UInt8.toNat_ofNat']
  exact Nat.mod_eq_of_lt this
theorem B_inj (l1 l2 : List Nat) (h1 : bytesOk l1) (h2 : bytesOk l2) : B l1 = B l2 ↔ l1 = l2 := by
  constructor
  · intro h
    have e : l1.map UInt8.ofNat = l2.map UInt8.ofNat := by
      have := congrArg (fun s : ByteArray => s.data.toList) h
      simpa [B] using this
    have e2 : (l1.map UInt8.ofNat).map UInt8.toNat = (l2.map UInt8.ofNat).map UInt8.toNat := congrArg _ e
    have key : ∀ l : List Nat, bytesOk l → (l.map UInt8.ofNat).map UInt8.toNat = l := by
      intro l hl
      rw [List.map_map]
      conv => rhs; rw [← List.map_id l]
      refine List.map_congr_left fun x hx => ?_
      show (UInt8.ofNat x).toNat = x
      rw [UInt8.toNat_ofNat']
      exact Nat.mod_eq_of_lt (hl x hx)
    rw [key l1 h1, key l2 h2] at e2
    exact e2
  · rintro rfl; rfl
theorem B_extract (l : List Nat) (a b : Nat) : (B l).extract a b = B ((l.drop a).take (b - a)) := by
  apply ByteArray.ext
  show ((B l).extract a b).data = _
  rw [ByteArray.data_extract]
  show ((l.map UInt8.ofNat).toArray).extract a b = _
  simp [B, List.extract_eq_take_drop, List.map_take, List.map_drop]
theorem bytesOk.drop {l : List Nat} (h : bytesOk l) (a : Nat) : bytesOk (l.drop a) := fun x hx => h x (List.mem_of_mem_drop hx)
theorem bytesOk.take {l : List Nat} (h : bytesOk l) (a : Nat) : bytesOk (l.take a) := fun x hx => h x (List.mem_of_mem_take hx)

def skipW : List Nat → Nat → List Nat
  | l, 0 => l
  | [], _ + 1 => []
  | l, n + 1 => skipW ((l.dropWhile (· != 32)).drop 1) n
def wordL (l : List Nat) (n : Nat) : List Nat := (skipW l n).takeWhile (· != 32)
def findA : List Nat → List Nat → List Nat → Nat → Nat
  | [], _, _, _ => 0
  | c :: r, acc, w, n => if c = 32 then (if acc = w then n else findA r [] w (n + 1)) else findA r (acc ++ [c]) w n
def findL (l w : List Nat) : Nat := findA l [] w 1
def partL (m : Nat) : List Nat → Nat → List Nat
  | l, 0 => l.takeWhile (· != m)
  | l, n + 1 => match l.dropWhile (· != m) with
    | [] => []
    | _ :: r => partL m r n
def wordsA : List Nat → List Nat → List (List Nat)
  | [], acc => if acc = [] then [] else [acc]
  | c :: r, acc => if c = 32 then acc :: wordsA r [] else wordsA r (acc ++ [c])
theorem skipW_nil (n : Nat) : skipW [] n = [] := by cases n <;> rfl
theorem wordsA_acc (l acc : List Nat) : ∀ n, (wordsA l acc).getD n [] = match n with | 0 => acc ++ l.takeWhile (· != 32) | n + 1 => wordL ((l.dropWhile (· != 32)).drop 1) n := by
  induction l generalizing acc with
  | nil =>
    intro n
    cases n with
    | zero => simp only [wordsA]; split <;> simp_all
    | succ n => simp only [wordsA]; split <;> simp [wordL, skipW_nil]
  | cons c r ih =>
    intro n
    simp only [wordsA]
    by_cases hc : c = 32
    · subst hc
      rw [if_pos rfl]
      cases n with
      | zero => simp
      | succ n =>
        simp only [List.getD_cons_succ]
        rw [ih []]
        cases n with
        | zero => simp [wordL, skipW, List.takeWhile]
        | succ n =>
          simp only [List.dropWhile, bne_self_eq_false]
          simp only [List.drop_succ_cons, List.drop_zero]
          unfold wordL
          cases r with
          | nil => simp [skipW_nil]
          | cons d r => rfl
    · rw [if_neg hc, ih]
      have h2 : (c != 32) = true := by simpa using hc
      cases n with
      | zero => simp [List.takeWhile_cons, h2]
      | succ n => simp [List.dropWhile_cons, h2]
theorem wordsA_word (l : List Nat) (n : Nat) : wordL l n = (wordsA l []).getD n [] := by
  rw [wordsA_acc]
  cases n with
  | zero => simp [wordL, skipW]
  | succ n =>
    cases l with
    | nil => simp [wordL, skipW_nil]
    | cons c r => rfl
theorem B_nil : B [] = { data := #[] } := rfl
attribute [irreducible] B
end Go.Proofs.YtcglkefaopgjeaaGreatDoor

/- The reference's texts: words of a text, its parts, and which word it is: walks. -/
namespace Go.Proofs.YtcglkefaopgjeaaGreatDoor
set_option linter.unusedSimpArgs false
set_option linter.unusedVariables false
open Go.RowKit

theorem skipW_drop (l : List Nat) (a n : Nat) (h : a < l.length) : skipW (l.drop a) (n + 1) = skipW (((l.drop a).dropWhile (· != 32)).drop 1) n := by
  cases he : l.drop a with
  | nil => rw [List.drop_eq_nil_iff] at he; omega
  | cons c r => rfl
/-- From a place on: where the next blank is. -/
theorem dropWhile_at (m : Nat) (l : List Nat) (a : Nat) (h : a < l.length) : (l.drop a).dropWhile (· != m) = if l[a] = m then l.drop a else (l.drop (a + 1)).dropWhile (· != m) := by
  rw [List.drop_eq_getElem_cons h, List.dropWhile_cons]
  by_cases e : l[a] = m
  · rw [if_pos e, if_neg (by simp [e])]
  · rw [if_neg e, if_pos (by simpa using e)]
theorem takeWhile_at (m : Nat) (l : List Nat) (a : Nat) (h : a < l.length) : (l.drop a).takeWhile (· != m) = if l[a] = m then [] else l[a] :: (l.drop (a + 1)).takeWhile (· != m) := by
  rw [List.drop_eq_getElem_cons h, List.takeWhile_cons]
  by_cases e : l[a] = m
  · rw [if_pos e, if_neg (by simp [e])]
  · rw [if_neg e, if_pos (by simpa using e)]
theorem B_beq (l1 l2 : List Nat) (h1 : bytesOk l1) (h2 : bytesOk l2) : ((B l1).toList == (B l2).toList) = decide (l1 = l2) := by
  rw [Bool.eq_iff_iff, beq_iff_eq, decide_eq_true_iff, ← B_inj l1 l2 h1 h2, ByteArray.toList_eq, ByteArray.toList_eq]
  constructor
  · intro e
    exact ByteArray.ext (Array.toList_inj.1 e)
  · intro e; rw [e]

theorem skipW_on (l : List Nat) (A D n : Nat) (hA : A < l.length) (hd : (l.drop D).dropWhile (· != 32) = (l.drop A).dropWhile (· != 32)) (he : (l.drop D).dropWhile (· != 32) = l.drop D) (K : Nat) (hK : K < n) (r : List Nat) (hr : skipW (l.drop A) (n - K) = r) : skipW (l.drop (D + 1)) (n - (K + 1)) = r := by
  rw [show n - K = n - (K + 1) + 1 by omega, skipW_drop l A _ hA, ← hd, he, List.drop_drop] at hr
  exact hr
theorem take_upto (m : Nat) (l : List Nat) (A D : Nat) (h : A ≤ D) (hD : D ≤ l.length) (hno : ∀ k, A ≤ k → (hk : k < D) → l[k]'(by omega) ≠ m) (he : D = l.length ∨ ∃ h : D < l.length, l[D] = m) : (l.drop A).takeWhile (· != m) = (l.drop A).take (D - A) := by
  obtain ⟨d, rfl⟩ : ∃ d, D = A + d := ⟨D - A, by omega⟩
  clear h
  induction d generalizing A with
  | zero =>
    rw [Nat.add_zero] at he
    rw [Nat.add_zero, Nat.sub_self, List.take_zero]
    rcases he with e | ⟨h, e⟩
    · rw [List.drop_eq_nil_of_le (by omega)]; rfl
    · rw [takeWhile_at m l A h, if_pos e]
  | succ d ih =>
    have hA : A < l.length := by omega
    rw [takeWhile_at m l A hA, if_neg (hno A (by omega) (by omega)), ih (A + 1) (by omega) (fun k h1 h2 => hno k (by omega) (by omega)) (by rw [show A + 1 + d = A + (d + 1) by omega]; exact he)]
    rw [List.drop_eq_getElem_cons hA, show A + (d + 1) - A = (A + 1 + d - (A + 1)) + 1 by omega, List.take_succ_cons]

set_option maxRecDepth 100000 in
set_option maxHeartbeats 3200000 in
theorem word_any4 (l : List Nat) (hl : bytesOk l) (hn : l.length ≤ 100000) (n : Nat) (hn2 : n ≤ 100000) (w : World) : Calls Tryz.prog 106 #[.string (B l), .int .i64 n] w fun e w' => e = .returned (.string (B (wordL l n))) ∧ w = w' := by
  have hs := B_size l
  go_enter Tryz.func106, Tryz.ntmps106
  go_wp2_with fail
  go_loop [5, 6] (fun a k => ∃ A K : Nat, a = .int .i64 A ∧ k = .int .i64 K ∧ K ≤ n ∧ A ≤ l.length + 1 ∧ skipW (l.drop A) (n - K) = skipW l n) (fun _ k => n - (intOf k).toNat)
  case atStart => exact ⟨0, 0, rfl, rfl, by omega, by omega, rfl⟩
  case round =>
    obtain ⟨A, K, rfl, rfl, hK, hA, hr⟩ := hrel
    by_cases hlt : K < n ∧ A < l.length
    · have i1 : (K : Int) < n := by omega
      have i2 : (A : Int) < (B l).size := by omega
      go_wp2_with fail
      go_loop [5] (fun a => ∃ D : Nat, a = .int .i64 D ∧ D ≤ l.length ∧ (l.drop D).dropWhile (· != 32) = (l.drop A).dropWhile (· != 32)) (fun a => l.length - (intOf a).toNat)
      case atStart => exact ⟨A, rfl, by omega, rfl⟩
      case round =>
        obtain ⟨D, rfl, hD, hd⟩ := hrel
        by_cases hx : D < l.length
        · have i3 : (D : Int) < (B l).size := by omega
          have i4 : D < (B l).size := by omega
          have i5 := B_get l hl D i4
          by_cases hy : l[D] = 32
          · have i6 : ((((B l)[D]'i4).toNat : Int) != 32) = false := by rw [i5, hy]; rfl
            go_wp2_with fail
            refine ⟨⟨D + 1, K + 1, by go_num, by go_num, by omega, by omega, ?_⟩, by simp [intOf] <;> omega⟩
            exact skipW_on l A D n hlt.2 hd (by rw [dropWhile_at 32 l D hx, if_pos hy]) K hlt.1 _ hr
          · have i6 : ((((B l)[D]'i4).toNat : Int) != 32) = true := by rw [i5]; simp; omega
            go_wp2_with fail
            refine ⟨⟨D + 1, by go_num, by omega, ?_⟩, by simp [intOf] <;> omega⟩
            rw [← hd, dropWhile_at 32 l D hx, if_neg hy]
        · have i3 : ¬ (D : Int) < (B l).size := by omega
          go_wp2_with fail
          refine ⟨⟨D + 1, K + 1, by go_num, by go_num, by omega, by omega, ?_⟩, by simp [intOf] <;> omega⟩
          exact skipW_on l A D n hlt.2 hd (by rw [List.drop_eq_nil_of_le (by omega)]; rfl) K hlt.1 _ hr
    · have hfin : skipW l n = l.drop A := by
        rw [← hr]
        by_cases h : A < l.length
        · rw [show n - K = 0 by omega]; simp [skipW]
        · rw [List.drop_eq_nil_of_le (by omega), skipW_nil]
      have HF := Lib.hid hfin
      clear hr hfin
      have hcase : ¬ K < n ∨ (K < n ∧ ¬ A < l.length) := by omega
      rcases hcase with h1 | ⟨h1, h2⟩
      · have i1 : ¬ (K : Int) < n := by omega
        go_wp2_with fail
        go_loop [7] (fun a => ∃ D : Nat, a = .int .i64 D ∧ A ≤ D ∧ D ≤ max A l.length ∧ ∀ k, A ≤ k → (hk : k < D) → (hk2 : k < l.length) → l[k] ≠ 32) (fun a => l.length - (intOf a).toNat)
        case atStart => exact ⟨A, rfl, by omega, by omega, fun k h1 h2 => by omega⟩
        case round =>
          obtain ⟨D, rfl, hAD, hD, hno⟩ := hrel
          by_cases hx : D < l.length
          · have i3 : (D : Int) < (B l).size := by omega
            have i4 : D < (B l).size := by omega
            have i5 := B_get l hl D i4
            by_cases hy : l[D] = 32
            · have i6 : ((((B l)[D]'i4).toNat : Int) != 32) = false := by rw [i5, hy]; rfl
              have i7 : ¬ (l.length : Int) ≤ (A : Int) := by omega
              have i8 : ¬ ((B l).size : Int) ≤ (A : Int) := by omega
              have HW := Lib.hid (show wordL l n = (l.drop A).take (D - A) by rw [wordL, HF.out]; exact take_upto 32 l A D hAD (by omega) (fun k h1 h2 => hno k h1 h2 (by omega)) (Or.inr ⟨hx, hy⟩))
              clear hno
              go_wp2_with fail
              all_goals
                go_ret
                rw [HW.out, ← B_extract]
                exact ⟨rfl, rfl⟩
            · have i6 : ((((B l)[D]'i4).toNat : Int) != 32) = true := by rw [i5]; simp; omega
              have HN := Lib.hid hno
              clear hno
              go_wp2_with fail
              all_goals
                refine ⟨⟨D + 1, by go_num, by omega, by omega, fun k h1 h2 h3 => ?_⟩, by simp [intOf]; omega⟩
                by_cases e : k = D
                · subst e; exact hy
                · exact HN.out k h1 (by omega) h3
          · have i3 : ¬ (D : Int) < (B l).size := by omega
            by_cases hz : A < l.length
            · have i7 : ¬ (l.length : Int) ≤ (A : Int) := by omega
              have i8 : ¬ ((B l).size : Int) ≤ (A : Int) := by omega
              have HW := Lib.hid (show wordL l n = (l.drop A).take (D - A) by rw [wordL, HF.out]; exact take_upto 32 l A D hAD (by omega) (fun k h1 h2 => hno k h1 h2 (by omega)) (Or.inl (by omega)))
              clear hno
              go_wp2_with fail
              all_goals
                go_ret
                rw [HW.out, ← B_extract]
                exact ⟨rfl, rfl⟩
            · have i7 : (l.length : Int) ≤ (A : Int) := by omega
              have i8 : ((B l).size : Int) ≤ (A : Int) := by omega
              have HW := Lib.hid (show wordL l n = [] by rw [wordL, HF.out, List.drop_eq_nil_of_le (by omega)]; rfl)
              clear hno
              go_wp2_with fail
              all_goals
                go_ret
                rw [HW.out, B_nil]
                exact ⟨rfl, rfl⟩
      · have i1 : (K : Int) < n := by omega
        have i2 : ¬ (A : Int) < (B l).size := by omega
        go_wp2_with fail
        go_loop [7] (fun a => ∃ D : Nat, a = .int .i64 D ∧ A ≤ D ∧ D ≤ max A l.length ∧ ∀ k, A ≤ k → (hk : k < D) → (hk2 : k < l.length) → l[k] ≠ 32) (fun a => l.length - (intOf a).toNat)
        case atStart => exact ⟨A, rfl, by omega, by omega, fun k h1 h2 => by omega⟩
        case round =>
          obtain ⟨D, rfl, hAD, hD, hno⟩ := hrel
          by_cases hx : D < l.length
          · have i3 : (D : Int) < (B l).size := by omega
            have i4 : D < (B l).size := by omega
            have i5 := B_get l hl D i4
            by_cases hy : l[D] = 32
            · have i6 : ((((B l)[D]'i4).toNat : Int) != 32) = false := by rw [i5, hy]; rfl
              have i7 : ¬ (l.length : Int) ≤ (A : Int) := by omega
              have i8 : ¬ ((B l).size : Int) ≤ (A : Int) := by omega
              have HW := Lib.hid (show wordL l n = (l.drop A).take (D - A) by rw [wordL, HF.out]; exact take_upto 32 l A D hAD (by omega) (fun k h1 h2 => hno k h1 h2 (by omega)) (Or.inr ⟨hx, hy⟩))
              clear hno
              go_wp2_with fail
              all_goals
                go_ret
                rw [HW.out, ← B_extract]
                exact ⟨rfl, rfl⟩
            · have i6 : ((((B l)[D]'i4).toNat : Int) != 32) = true := by rw [i5]; simp; omega
              have HN := Lib.hid hno
              clear hno
              go_wp2_with fail
              all_goals
                refine ⟨⟨D + 1, by go_num, by omega, by omega, fun k h1 h2 h3 => ?_⟩, by simp [intOf]; omega⟩
                by_cases e : k = D
                · subst e; exact hy
                · exact HN.out k h1 (by omega) h3
          · have i3 : ¬ (D : Int) < (B l).size := by omega
            by_cases hz : A < l.length
            · have i7 : ¬ (l.length : Int) ≤ (A : Int) := by omega
              have i8 : ¬ ((B l).size : Int) ≤ (A : Int) := by omega
              have HW := Lib.hid (show wordL l n = (l.drop A).take (D - A) by rw [wordL, HF.out]; exact take_upto 32 l A D hAD (by omega) (fun k h1 h2 => hno k h1 h2 (by omega)) (Or.inl (by omega)))
              clear hno
              go_wp2_with fail
              all_goals
                go_ret
                rw [HW.out, ← B_extract]
                exact ⟨rfl, rfl⟩
            · have i7 : (l.length : Int) ≤ (A : Int) := by omega
              have i8 : ((B l).size : Int) ≤ (A : Int) := by omega
              have HW := Lib.hid (show wordL l n = [] by rw [wordL, HF.out, List.drop_eq_nil_of_le (by omega)]; rfl)
              clear hno
              go_wp2_with fail
              all_goals
                go_ret
                rw [HW.out, B_nil]
                exact ⟨rfl, rfl⟩

/-- A part of a text, from a place on. -/
def partFrom (m : Nat) (l : List Nat) (F n : Nat) : List Nat := partL m (l.drop F) n
theorem partL_step (m : Nat) (l : List Nat) (D n : Nat) (h : D < l.length) (hm : l[D] = m) (F : Nat) (hF : F ≤ D) (hno : ∀ k, F ≤ k → (hk : k < D) → l[k]'(by omega) ≠ m) : partL m (l.drop F) (n + 1) = partL m (l.drop (D + 1)) n := by
  have e : (l.drop F).dropWhile (· != m) = l.drop D := by
    obtain ⟨d, rfl⟩ : ∃ d, D = F + d := ⟨D - F, by omega⟩
    clear hF
    induction d generalizing F with
    | zero => rw [dropWhile_at m l F (by omega), if_pos (by simpa using hm)]; rfl
    | succ d ih =>
      rw [dropWhile_at m l F (by omega), if_neg (hno F (by omega) (by omega))]
      have := ih (F + 1) (by omega) (by simpa [show F + 1 + d = F + (d + 1) by omega] using hm) (fun k h1 h2 => hno k (by omega) (by omega))
      rw [this, show F + 1 + d = F + (d + 1) by omega]
  rw [partL, e, List.drop_eq_getElem_cons h]
theorem dropWhile_none (m : Nat) (l : List Nat) (h : ∀ x ∈ l, x ≠ m) : l.dropWhile (· != m) = [] := by
  induction l with
  | nil => rfl
  | cons c r ih =>
    rw [List.dropWhile_cons, if_pos (by simpa using h c (by simp))]
    exact ih (fun x hx => h x (by simp [hx]))
theorem partL_end (m : Nat) (l : List Nat) (n F : Nat) (hno : ∀ k, F ≤ k → (hk : k < l.length) → l[k] ≠ m) : partL m (l.drop F) (n + 1) = [] := by
  have e : (l.drop F).dropWhile (· != m) = [] := by
    refine dropWhile_none m _ fun x hx => ?_
    obtain ⟨k, hk, rfl⟩ := List.getElem_of_mem hx
    rw [List.getElem_drop]
    exact hno (F + k) (by omega) (by simp at hk; omega)
  rw [partL, e]
theorem partL_nil (m n : Nat) : partL m [] n = [] := by cases n <;> rfl

set_option maxRecDepth 100000 in
set_option maxHeartbeats 3200000 in
theorem part_any4 (l : List Nat) (hl : bytesOk l) (hn : l.length ≤ 100000) (m : Nat) (hm : m < 256) (n : Nat) (hn2 : n ≤ 100000) (w : World) : Calls Tryz.prog 144 #[.string (B l), .int .u8 m, .int .i64 n] w fun e w' => e = .returned (.string (B (partL m l n))) ∧ w = w' := by
  have hs := B_size l
  go_enter Tryz.func144, Tryz.ntmps144
  go_wp2_with fail
  go_loop [2, 7, 8] (fun c f i => ∃ N F D : Nat, c = .int .i64 N ∧ f = .int .i64 F ∧ i = .int .i64 D ∧ N ≤ n ∧ F ≤ D ∧ D ≤ l.length + 1 ∧ (D ≤ l.length ∨ D ≤ F) ∧ partL m (l.drop F) N = partL m l n ∧ ∀ k, F ≤ k → (hk : k < D) → (hk2 : k < l.length) → l[k] ≠ m) (fun _ _ i => l.length + 1 - (intOf i).toNat)
  case atStart => exact ⟨n, 0, 0, rfl, rfl, rfl, by omega, by omega, by omega, by omega, rfl, fun k h1 h2 => by omega⟩
  case round =>
    obtain ⟨N, F, D, rfl, rfl, rfl, hN, hF, hD, hD2, hr, hno⟩ := hrel
    have HR := Lib.hid hr
    have HN := Lib.hid hno
    clear hr hno
    by_cases hx : D < l.length
    · have i3 : (D : Int) < (B l).size := by omega
      have i3b : (D : Int) ≤ (B l).size := by omega
      have i4 : D < (B l).size := by omega
      have i5 := B_get l hl D i4
      by_cases hy : l[D] = m
      · have i6 : ((((B l)[D]'i4).toNat : Int) != m) = false := by rw [i5, hy]; simp
        cases N with
        | zero =>
          have HW := Lib.hid (show partL m l n = (l.drop F).take (D - F) by rw [← HR.out, partL]; exact take_upto m l F D hF (by omega) (fun k h1 h2 => HN.out k h1 h2 (by omega)) (Or.inr ⟨hx, hy⟩))
          go_wp2_with fail
          all_goals
            go_ret
            rw [HW.out, ← B_extract]
            exact ⟨rfl, rfl⟩
        | succ N =>
          have i7 : (((N + 1 : Nat) : Int) == 0) = false := by simp; omega
          go_wp2_with fail
          all_goals
            refine ⟨⟨N, D + 1, D + 1, by go_num, by go_num, by go_num, by omega, by omega, by omega, by omega, ?_, fun k h1 h2 => by omega⟩, by simp [intOf] <;> omega⟩
            rw [← HR.out]
            exact (partL_step m l D N hx hy F hF (fun k h1 h2 => HN.out k h1 h2 (by omega))).symm
      · have i6 : ((((B l)[D]'i4).toNat : Int) != m) = true := by rw [i5]; simp; omega
        go_wp2_with fail
        all_goals
          refine ⟨⟨N, F, D + 1, by go_num, by go_num, by go_num, by omega, by omega, by omega, by omega, HR.out, fun k h1 h2 h3 => ?_⟩, by simp [intOf] <;> omega⟩
          by_cases e : k = D
          · subst e; exact hy
          · exact HN.out k h1 (by omega) h3
    · have i3 : ¬ (D : Int) < (B l).size := by omega
      by_cases hz : D = l.length
      · subst hz
        have i3b : (l.length : Int) ≤ (B l).size := by omega
        cases N with
        | zero =>
          have HW := Lib.hid (show partL m l n = (l.drop F).take (l.length - F) by rw [← HR.out, partL]; exact take_upto m l F _ hF (by omega) (fun k h1 h2 => HN.out k h1 h2 (by omega)) (Or.inl rfl))
          go_wp2_with fail
          all_goals
            go_ret
            rw [HW.out, ← B_extract]
            exact ⟨rfl, rfl⟩
        | succ N =>
          have i7 : (((N + 1 : Nat) : Int) == 0) = false := by simp; omega
          have HE := Lib.hid (show partL m l n = [] by rw [← HR.out]; exact partL_end m l N F (fun k h1 h2 => HN.out k h1 (by omega) h2))
          go_wp2_with fail
          all_goals
            refine ⟨⟨N, l.length + 1, l.length + 1, by go_num, by go_num, by go_num, by omega, by omega, by omega, by omega, ?_, fun k h1 h2 => by omega⟩, by simp [intOf] <;> omega⟩
            rw [HE.out, List.drop_eq_nil_of_le (by omega), partL_nil]
      · have i3b : ¬ (D : Int) ≤ (B l).size := by omega
        have HE := Lib.hid (show partL m l n = [] by
          rw [← HR.out]
          cases N with
          | zero => rw [List.drop_eq_nil_of_le (by omega), partL_nil]
          | succ N => exact partL_end m l N F (fun k h1 h2 => HN.out k h1 (by omega) h2))
        go_wp2_with fail
        all_goals
          go_ret
          rw [HE.out, B_nil]
          exact ⟨rfl, rfl⟩

theorem take_succ_at (l : List Nat) (F D : Nat) (hF : F ≤ D) (hD : D < l.length) : (l.drop F).take (D + 1 - F) = (l.drop F).take (D - F) ++ [l[D]] := by
  rw [show D + 1 - F = (D - F) + 1 by omega, List.take_add_one]
  congr 1
  rw [List.getElem?_drop, show F + (D - F) = D by omega, List.getElem?_eq_getElem hD]
  rfl

set_option maxRecDepth 100000 in
set_option maxHeartbeats 3200000 in
theorem find_any4 (l : List Nat) (hl : bytesOk l) (hn : l.length ≤ 100000) (x : List Nat) (hx : bytesOk x) (w : World) : Calls Tryz.prog 145 #[.string (B l), .string (B x)] w fun e w' => e = .returned (.int .i64 (findL l x)) ∧ w = w' := by
  have hs := B_size l
  go_enter Tryz.func145, Tryz.ntmps145
  go_wp2_with fail
  go_loop [5, 6, 7] (fun c f i => ∃ N F D : Nat, c = .int .i64 N ∧ f = .int .i64 F ∧ i = .int .i64 D ∧ N ≤ D + 1 ∧ F ≤ D ∧ D ≤ l.length ∧ findA (l.drop D) ((l.drop F).take (D - F)) x N = findL l x) (fun _ _ i => l.length - (intOf i).toNat)
  case atStart => exact ⟨1, 0, 0, rfl, rfl, rfl, by omega, by omega, by omega, rfl⟩
  case round =>
    obtain ⟨N, F, D, rfl, rfl, rfl, hN, hF, hD, hr⟩ := hrel
    have HR := Lib.hid hr
    clear hr
    by_cases hlt : D < l.length
    · have i3 : (D : Int) < (B l).size := by omega
      have i4 : D < (B l).size := by omega
      have i5 := B_get l hl D i4
      have hcons := List.drop_eq_getElem_cons hlt
      by_cases hy : l[D] = 32
      · have i6 : ((((B l)[D]'i4).toNat : Int) != 32) = false := by rw [i5, hy]; rfl
        by_cases hw : (l.drop F).take (D - F) = x
        · have i7 : (((B l).extract F D).toList == (B x).toList) = true := by rw [B_extract, B_beq _ _ ((hl.drop F).take _) hx]; exact decide_eq_true hw
          have HE := Lib.hid (show findL l x = N by rw [← HR.out, hcons, findA, if_pos hy, if_pos hw])
          clear hcons
          go_wp2_with fail
          all_goals
            go_ret
            rw [HE.out]
            exact ⟨rfl, rfl⟩
        · have i7 : (((B l).extract F D).toList == (B x).toList) = false := by rw [B_extract, B_beq _ _ ((hl.drop F).take _) hx]; exact decide_eq_false hw
          have HE := Lib.hid (show findA (l.drop (D + 1)) [] x (N + 1) = findL l x by rw [← HR.out, hcons, findA, if_pos hy, if_neg hw])
          clear hcons
          go_wp2_with fail
          all_goals
            refine ⟨⟨N + 1, D + 1, D + 1, by go_num, by go_num, by go_num, by omega, by omega, by omega, ?_⟩, by simp [intOf] <;> omega⟩
            rw [Nat.sub_self, List.take_zero]
            exact HE.out
      · have i6 : ((((B l)[D]'i4).toNat : Int) != 32) = true := by rw [i5]; simp; omega
        have HE := Lib.hid (show findA (l.drop (D + 1)) ((l.drop F).take (D + 1 - F)) x N = findL l x by rw [← HR.out, hcons, findA, if_neg hy, take_succ_at l F D hF hlt])
        clear hcons
        go_wp2_with fail
        all_goals
          refine ⟨⟨N, F, D + 1, by go_num, by go_num, by go_num, by omega, by omega, by omega, HE.out⟩, by simp [intOf] <;> omega⟩
    · have i3 : ¬ (D : Int) < (B l).size := by omega
      have HE := Lib.hid (show findL l x = 0 by rw [← HR.out, List.drop_eq_nil_of_le (by omega)]; rfl)
      go_wp2_with fail
      all_goals
        go_ret
        rw [HE.out]
        exact ⟨rfl, rfl⟩

theorem part_int (l : List Nat) (hl : bytesOk l) (hn : l.length ≤ 100000) (m : Nat) (hm : m < 256) (n : Nat) (hn2 : n ≤ 100000) (M N : Int) (hM : M = m) (hN : N = n) (w : World) : Calls Tryz.prog 144 #[.string (B l), .int .u8 M, .int .i64 N] w fun e w' => e = .returned (.string (B (partL m l n))) ∧ w = w' := by
  subst hM hN; exact part_any4 l hl hn m hm n hn2 w
theorem word_int (l : List Nat) (hl : bytesOk l) (hn : l.length ≤ 100000) (n : Nat) (hn2 : n ≤ 100000) (N : Int) (hN : N = n) (w : World) : Calls Tryz.prog 106 #[.string (B l), .int .i64 N] w fun e w' => e = .returned (.string (B (wordL l n))) ∧ w = w' := by
  subst hN; exact word_any4 l hl hn n hn2 w
end Go.Proofs.YtcglkefaopgjeaaGreatDoor

/- The reference's table, as numbers, says what isaOf says: plain laws, no walk. -/
namespace Go.Proofs.YtcglkefaopgjeaaGreatDoor
set_option linter.unusedSimpArgs false
set_option linter.unusedVariables false
open Go.RowKit
set_option maxRecDepth 100000

def T04 : List Nat := [65, 68, 68, 58, 69, 98, 58, 71, 98, 32, 65, 68, 68, 58, 69, 118, 58, 71, 118, 32, 65, 68, 68, 58, 71, 98, 58, 69, 98, 32, 65, 68, 68, 58, 71, 118, 58, 69, 118, 32, 65, 68, 68, 58, 65, 76, 58, 73, 98, 32, 65, 68, 68, 58, 65, 88, 58, 73, 118, 32, 80, 85, 83, 72, 58, 90, 115, 32, 80, 79, 80, 58, 90, 115, 32, 79, 82, 58, 69, 98, 58, 71, 98, 32, 79, 82, 58, 69, 118, 58, 71, 118, 32, 79, 82, 58, 71, 98, 58, 69, 98, 32, 79, 82, 58, 71, 118, 58, 69, 118, 32, 79, 82, 58, 65, 76, 58, 73, 98, 32, 79, 82, 58, 65, 88, 58, 73, 118, 32, 80, 85, 83, 72, 58, 90, 115, 32, 45, 32, 65, 68, 67, 58, 69, 98, 58, 71, 98, 32, 65, 68, 67, 58, 69, 118, 58, 71, 118, 32, 65, 68, 67, 58, 71, 98, 58, 69, 98, 32, 65, 68, 67, 58, 71, 118, 58, 69, 118, 32, 65, 68, 67, 58, 65, 76, 58, 73, 98, 32, 65, 68, 67, 58, 65, 88, 58, 73, 118, 32, 80, 85, 83, 72, 58, 90, 115, 32, 80, 79, 80, 58, 90, 115, 32, 83, 66, 66, 58, 69, 98, 58, 71, 98, 32, 83, 66, 66, 58, 69, 118, 58, 71, 118, 32, 83, 66, 66, 58, 71, 98, 58, 69, 98, 32, 83, 66, 66, 58, 71, 118, 58, 69, 118, 32, 83, 66, 66, 58, 65, 76, 58, 73, 98, 32, 83, 66, 66, 58, 65, 88, 58, 73, 118, 32, 80, 85, 83, 72, 58, 90, 115, 32, 80, 79, 80, 58, 90, 115, 32, 65, 78, 68, 58, 69, 98, 58, 71, 98, 32, 65, 78, 68, 58, 69, 118, 58, 71, 118, 32, 65, 78, 68, 58, 71, 98, 58, 69, 98, 32, 65, 78, 68, 58, 71, 118, 58, 69, 118, 32, 65, 78, 68, 58, 65, 76, 58, 73, 98, 32, 65, 78, 68, 58, 65, 88, 58, 73, 118, 32, 45, 32, 68, 65, 65, 32, 83, 85, 66, 58, 69, 98, 58, 71, 98, 32, 83, 85, 66, 58, 69, 118, 58, 71, 118, 32, 83, 85, 66, 58, 71, 98, 58, 69, 98, 32, 83, 85, 66, 58, 71, 118, 58, 69, 118, 32, 83, 85, 66, 58, 65, 76, 58, 73, 98, 32, 83, 85, 66, 58, 65, 88, 58, 73, 118, 32, 45, 32, 68, 65, 83, 32, 88, 79, 82, 58, 69, 98, 58, 71, 98, 32, 88, 79, 82, 58, 69, 118, 58, 71, 118, 32, 88, 79, 82, 58, 71, 98, 58, 69, 98, 32, 88, 79, 82, 58, 71, 118, 58, 69, 118, 32, 88, 79, 82, 58, 65, 76, 58, 73, 98, 32, 88, 79, 82, 58, 65, 88, 58, 73, 118, 32, 45, 32, 65, 65, 65, 32, 67, 77, 80, 58, 69, 98, 58, 71, 98, 32, 67, 77, 80, 58, 69, 118, 58, 71, 118, 32, 67, 77, 80, 58, 71, 98, 58, 69, 98, 32, 67, 77, 80, 58, 71, 118, 58, 69, 118, 32, 67, 77, 80, 58, 65, 76, 58, 73, 98, 32, 67, 77, 80, 58, 65, 88, 58, 73, 118, 32, 45, 32, 65, 65, 83, 32, 73, 78, 67, 58, 90, 118, 32, 73, 78, 67, 58, 90, 118, 32, 73, 78, 67, 58, 90, 118, 32, 73, 78, 67, 58, 90, 118, 32, 73, 78, 67, 58, 90, 118, 32, 73, 78, 67, 58, 90, 118, 32, 73, 78, 67, 58, 90, 118, 32, 73, 78, 67, 58, 90, 118, 32, 68, 69, 67, 58, 90, 118, 32, 68, 69, 67, 58, 90, 118, 32, 68, 69, 67, 58, 90, 118, 32, 68, 69, 67, 58, 90, 118, 32, 68, 69, 67, 58, 90, 118, 32, 68, 69, 67, 58, 90, 118, 32, 68, 69, 67, 58, 90, 118, 32, 68, 69, 67, 58, 90, 118, 32, 80, 85, 83, 72, 58, 90, 118, 32, 80, 85, 83, 72, 58, 90, 118, 32, 80, 85, 83, 72, 58, 90, 118, 32, 80, 85, 83, 72, 58, 90, 118, 32, 80, 85, 83, 72, 58, 90, 118, 32, 80, 85, 83, 72, 58, 90, 118, 32, 80, 85, 83, 72, 58, 90, 118, 32, 80, 85, 83, 72, 58, 90, 118, 32, 80, 79, 80, 58, 90, 118, 32, 80, 79, 80, 58, 90, 118, 32, 80, 79, 80, 58, 90, 118, 32, 80, 79, 80, 58, 90, 118, 32, 80, 79, 80, 58, 90, 118, 32, 80, 79, 80, 58, 90, 118, 32, 80, 79, 80, 58, 90, 118, 32, 80, 79, 80, 58, 90, 118, 32, 45, 32, 45, 32, 45, 32, 45, 32, 45, 32, 45, 32, 45, 32, 45, 32, 45, 32, 45, 32, 45, 32, 45, 32, 45, 32, 45, 32, 45, 32, 45, 32, 74, 79, 58, 74, 98, 32, 74, 78, 79, 58, 74, 98, 32, 74, 66, 58, 74, 98, 32, 74, 78, 66, 58, 74, 98, 32, 74, 90, 58, 74, 98, 32, 74, 78, 90, 58, 74, 98, 32, 74, 66, 69, 58, 74, 98, 32, 74, 65, 58, 74, 98, 32, 74, 83, 58, 74, 98, 32, 74, 78, 83, 58, 74, 98, 32, 74, 80, 58, 74, 98, 32, 74, 78, 80, 58, 74, 98, 32, 74, 76, 58, 74, 98, 32, 74, 71, 69, 58, 74, 98, 32, 74, 76, 69, 58, 74, 98, 32, 74, 71, 58, 74, 98, 32, 47, 65, 68, 68, 58, 69, 98, 58, 73, 98, 47, 79, 82, 58, 69, 98, 58, 73, 98, 47, 65, 68, 67, 58, 69, 98, 58, 73, 98, 47, 83, 66, 66, 58, 69, 98, 58, 73, 98, 47, 65, 78, 68, 58, 69, 98, 58, 73, 98, 47, 83, 85, 66, 58, 69, 98, 58, 73, 98, 47, 88, 79, 82, 58, 69, 98, 58, 73, 98, 47, 67, 77, 80, 58, 69, 98, 58, 73, 98, 32, 47, 65, 68, 68, 58, 69, 118, 58, 73, 118, 47, 79, 82, 58, 69, 118, 58, 73, 118, 47, 65, 68, 67, 58, 69, 118, 58, 73, 118, 47, 83, 66, 66, 58, 69, 118, 58, 73, 118, 47, 65, 78, 68, 58, 69, 118, 58, 73, 118, 47, 83, 85, 66, 58, 69, 118, 58, 73, 118, 47, 88, 79, 82, 58, 69, 118, 58, 73, 118, 47, 67, 77, 80, 58, 69, 118, 58, 73, 118, 32, 45, 32, 47, 65, 68, 68, 58, 69, 118, 58, 73, 115, 47, 45, 47, 65, 68, 67, 58, 69, 118, 58, 73, 115, 47, 83, 66, 66, 58, 69, 118, 58, 73, 115, 47, 45, 47, 83, 85, 66, 58, 69, 118, 58, 73, 115, 47, 45, 47, 67, 77, 80, 58, 69, 118, 58, 73, 115, 32, 84, 69, 83, 84, 58, 69, 98, 58, 71, 98, 32, 84, 69, 83, 84, 58, 69, 118, 58, 71, 118, 32, 88, 67, 72, 71, 58, 69, 98, 58, 71, 98, 32, 88, 67, 72, 71, 58, 69, 118, 58, 71, 118, 32, 77, 79, 86, 58, 69, 98, 58, 71, 98, 32, 77, 79, 86, 58, 69, 118, 58, 71, 118, 32, 77, 79, 86, 58, 71, 98, 58, 69, 98, 32, 77, 79, 86, 58, 71, 118, 58, 69, 118, 32, 47, 77, 79, 86, 58, 69, 118, 58, 83, 119, 47, 77, 79, 86, 58, 69, 118, 58, 83, 119, 47, 77, 79, 86, 58, 69, 118, 58, 83, 119, 47, 77, 79, 86, 58, 69, 118, 58, 83, 119, 47, 45, 47, 45, 47, 45, 47, 45, 32, 76, 69, 65, 58, 71, 118, 58, 77, 32, 47, 77, 79, 86, 58, 83, 119, 58, 69, 118, 47, 45, 47, 77, 79, 86, 58, 83, 119, 58, 69, 118, 47, 77, 79, 86, 58, 83, 119, 58, 69, 118, 47, 45, 47, 45, 47, 45, 47, 45, 32, 47, 80, 79, 80, 58, 69, 118, 47, 45, 47, 45, 47, 45, 47, 45, 47, 45, 47, 45, 47, 45, 32, 88, 67, 72, 71, 58, 65, 88, 58, 90, 118, 32, 88, 67, 72, 71, 58, 65, 88, 58, 90, 118, 32, 88, 67, 72, 71, 58, 65, 88, 58, 90, 118, 32, 88, 67, 72, 71, 58, 65, 88, 58, 90, 118, 32, 88, 67, 72, 71, 58, 65, 88, 58, 90, 118, 32, 88, 67, 72, 71, 58, 65, 88, 58, 90, 118, 32, 88, 67, 72, 71, 58, 65, 88, 58, 90, 118, 32, 88, 67, 72, 71, 58, 65, 88, 58, 90, 118, 32, 67, 66, 87, 32, 67, 87, 68, 32, 67, 65, 76, 76, 70, 58, 65, 112, 32, 87, 65, 73, 84, 32, 80, 85, 83, 72, 70, 32, 80, 79, 80, 70, 32, 83, 65, 72, 70, 32, 76, 65, 72, 70, 32, 77, 79, 86, 58, 65, 76, 58, 79, 98, 32, 77, 79, 86, 58, 65, 88, 58, 79, 118, 32, 77, 79, 86, 58, 79, 98, 58, 65, 76, 32, 77, 79, 86, 58, 79, 118, 58, 65, 88, 32, 77, 79, 86, 83, 66, 32, 77, 79, 86, 83, 87, 32, 67, 77, 80, 83, 66, 32, 67, 77, 80, 83, 87, 32, 84, 69, 83, 84, 58, 65, 76, 58, 73, 98, 32, 84, 69, 83, 84, 58, 65, 88, 58, 73, 118, 32, 83, 84, 79, 83, 66, 32, 83, 84, 79, 83, 87, 32, 76, 79, 68, 83, 66, 32, 76, 79, 68, 83, 87, 32, 83, 67, 65, 83, 66, 32, 83, 67, 65, 83, 87, 32, 77, 79, 86, 58, 90, 98, 58, 73, 98, 32, 77, 79, 86, 58, 90, 98, 58, 73, 98, 32, 77, 79, 86, 58, 90, 98, 58, 73, 98, 32, 77, 79, 86, 58, 90, 98, 58, 73, 98, 32, 77, 79, 86, 58, 90, 98, 58, 73, 98, 32, 77, 79, 86, 58, 90, 98, 58, 73, 98, 32, 77, 79, 86, 58, 90, 98, 58, 73, 98, 32, 77, 79, 86, 58, 90, 98, 58, 73, 98, 32, 77, 79, 86, 58, 90, 118, 58, 73, 118, 32, 77, 79, 86, 58, 90, 118, 58, 73, 118, 32, 77, 79, 86, 58, 90, 118, 58, 73, 118, 32, 77, 79, 86, 58, 90, 118, 58, 73, 118, 32, 77, 79, 86, 58, 90, 118, 58, 73, 118, 32, 77, 79, 86, 58, 90, 118, 58, 73, 118, 32, 77, 79, 86, 58, 90, 118, 58, 73, 118, 32, 77, 79, 86, 58, 90, 118, 58, 73, 118, 32, 45, 32, 45, 32, 82, 69, 84, 58, 73, 118, 32, 82, 69, 84, 32, 76, 69, 83, 58, 71, 118, 58, 77, 112, 32, 76, 68, 83, 58, 71, 118, 58, 77, 112, 32, 47, 77, 79, 86, 58, 69, 98, 58, 73, 98, 47, 45, 47, 45, 47, 45, 47, 45, 47, 45, 47, 45, 47, 45, 32, 47, 77, 79, 86, 58, 69, 118, 58, 73, 118, 47, 45, 47, 45, 47, 45, 47, 45, 47, 45, 47, 45, 47, 45, 32, 45, 32, 45, 32, 82, 69, 84, 70, 58, 73, 118, 32, 82, 69, 84, 70, 32, 73, 78, 84, 58, 84, 104, 114, 101, 101, 32, 73, 78, 84, 58, 73, 98, 32, 73, 78, 84, 79, 32, 73, 82, 69, 84, 32, 47, 82, 79, 76, 58, 69, 98, 58, 79, 110, 101, 47, 82, 79, 82, 58, 69, 98, 58, 79, 110, 101, 47, 82, 67, 76, 58, 69, 98, 58, 79, 110, 101, 47, 82, 67, 82, 58, 69, 98, 58, 79, 110, 101, 47, 83, 72, 76, 58, 69, 98, 58, 79, 110, 101, 47, 83, 72, 82, 58, 69, 98, 58, 79, 110, 101, 47, 45, 47, 83, 65, 82, 58, 69, 98, 58, 79, 110, 101, 32, 47, 82, 79, 76, 58, 69, 118, 58, 79, 110, 101, 47, 82, 79, 82, 58, 69, 118, 58, 79, 110, 101, 47, 82, 67, 76, 58, 69, 118, 58, 79, 110, 101, 47, 82, 67, 82, 58, 69, 118, 58, 79, 110, 101, 47, 83, 72, 76, 58, 69, 118, 58, 79, 110, 101, 47, 83, 72, 82, 58, 69, 118, 58, 79, 110, 101, 47, 45, 47, 83, 65, 82, 58, 69, 118, 58, 79, 110, 101, 32, 47, 82, 79, 76, 58, 69, 98, 58, 67, 76, 47, 82, 79, 82, 58, 69, 98, 58, 67, 76, 47, 82, 67, 76, 58, 69, 98, 58, 67, 76, 47, 82, 67, 82, 58, 69, 98, 58, 67, 76, 47, 83, 72, 76, 58, 69, 98, 58, 67, 76, 47, 83, 72, 82, 58, 69, 98, 58, 67, 76, 47, 45, 47, 83, 65, 82, 58, 69, 98, 58, 67, 76, 32, 47, 82, 79, 76, 58, 69, 118, 58, 67, 76, 47, 82, 79, 82, 58, 69, 118, 58, 67, 76, 47, 82, 67, 76, 58, 69, 118, 58, 67, 76, 47, 82, 67, 82, 58, 69, 118, 58, 67, 76, 47, 83, 72, 76, 58, 69, 118, 58, 67, 76, 47, 83, 72, 82, 58, 69, 118, 58, 67, 76, 47, 45, 47, 83, 65, 82, 58, 69, 118, 58, 67, 76, 32, 65, 65, 77, 58, 73, 98, 32, 65, 65, 68, 58, 73, 98, 32, 45, 32, 88, 76, 65, 84, 32, 69, 83, 67, 58, 69, 118, 32, 69, 83, 67, 58, 69, 118, 32, 69, 83, 67, 58, 69, 118, 32, 69, 83, 67, 58, 69, 118, 32, 69, 83, 67, 58, 69, 118, 32, 69, 83, 67, 58, 69, 118, 32, 69, 83, 67, 58, 69, 118, 32, 69, 83, 67, 58, 69, 118, 32, 76, 79, 79, 80, 78, 90, 58, 74, 98, 32, 76, 79, 79, 80, 90, 58, 74, 98, 32, 76, 79, 79, 80, 58, 74, 98, 32, 74, 67, 88, 90, 58, 74, 98, 32, 73, 78, 58, 65, 76, 58, 73, 98, 32, 73, 78, 58, 65, 88, 58, 73, 98, 32, 79, 85, 84, 58, 73, 98, 58, 65, 76, 32, 79, 85, 84, 58, 73, 98, 58, 65, 88, 32, 67, 65, 76, 76, 58, 74, 118, 32, 74, 77, 80, 58, 74, 118, 32, 74, 77, 80, 70, 58, 65, 112, 32, 74, 77, 80, 58, 74, 98, 32, 73, 78, 58, 65, 76, 58, 68, 88, 32, 73, 78, 58, 65, 88, 58, 68, 88, 32, 79, 85, 84, 58, 68, 88, 58, 65, 76, 32, 79, 85, 84, 58, 68, 88, 58, 65, 88, 32, 45, 32, 45, 32, 45, 32, 45, 32, 72, 76, 84, 32, 67, 77, 67, 32, 47, 84, 69, 83, 84, 58, 69, 98, 58, 73, 98, 47, 45, 47, 78, 79, 84, 58, 69, 98, 47, 78, 69, 71, 58, 69, 98, 47, 77, 85, 76, 58, 69, 98, 47, 73, 77, 85, 76, 58, 69, 98, 47, 68, 73, 86, 58, 69, 98, 47, 73, 68, 73, 86, 58, 69, 98, 32, 47, 84, 69, 83, 84, 58, 69, 118, 58, 73, 118, 47, 45, 47, 78, 79, 84, 58, 69, 118, 47, 78, 69, 71, 58, 69, 118, 47, 77, 85, 76, 58, 69, 118, 47, 73, 77, 85, 76, 58, 69, 118, 47, 68, 73, 86, 58, 69, 118, 47, 73, 68, 73, 86, 58, 69, 118, 32, 67, 76, 67, 32, 83, 84, 67, 32, 67, 76, 73, 32, 83, 84, 73, 32, 67, 76, 68, 32, 83, 84, 68, 32, 47, 73, 78, 67, 58, 69, 98, 47, 68, 69, 67, 58, 69, 98, 47, 45, 47, 45, 47, 45, 47, 45, 47, 45, 47, 45, 32, 47, 73, 78, 67, 58, 69, 118, 47, 68, 69, 67, 58, 69, 118, 47, 67, 65, 76, 76, 58, 69, 118, 47, 67, 65, 76, 76, 70, 58, 77, 112, 47, 74, 77, 80, 58, 69, 118, 47, 74, 77, 80, 70, 58, 77, 112, 47, 80, 85, 83, 72, 58, 69, 118, 47, 45, 32]
def N04 : List Nat := [65, 68, 68, 32, 79, 82, 32, 65, 68, 67, 32, 83, 66, 66, 32, 65, 78, 68, 32, 83, 85, 66, 32, 88, 79, 82, 32, 67, 77, 80, 32, 80, 85, 83, 72, 32, 80, 79, 80, 32, 68, 65, 65, 32, 68, 65, 83, 32, 65, 65, 65, 32, 65, 65, 83, 32, 73, 78, 67, 32, 68, 69, 67, 32, 74, 79, 32, 74, 78, 79, 32, 74, 66, 32, 74, 78, 66, 32, 74, 90, 32, 74, 78, 90, 32, 74, 66, 69, 32, 74, 65, 32, 74, 83, 32, 74, 78, 83, 32, 74, 80, 32, 74, 78, 80, 32, 74, 76, 32, 74, 71, 69, 32, 74, 76, 69, 32, 74, 71, 32, 84, 69, 83, 84, 32, 88, 67, 72, 71, 32, 77, 79, 86, 32, 76, 69, 65, 32, 67, 66, 87, 32, 67, 87, 68, 32, 67, 65, 76, 76, 32, 67, 65, 76, 76, 70, 32, 87, 65, 73, 84, 32, 80, 85, 83, 72, 70, 32, 80, 79, 80, 70, 32, 83, 65, 72, 70, 32, 76, 65, 72, 70, 32, 77, 79, 86, 83, 66, 32, 77, 79, 86, 83, 87, 32, 67, 77, 80, 83, 66, 32, 67, 77, 80, 83, 87, 32, 83, 84, 79, 83, 66, 32, 83, 84, 79, 83, 87, 32, 76, 79, 68, 83, 66, 32, 76, 79, 68, 83, 87, 32, 83, 67, 65, 83, 66, 32, 83, 67, 65, 83, 87, 32, 82, 69, 84, 32, 82, 69, 84, 70, 32, 76, 69, 83, 32, 76, 68, 83, 32, 73, 78, 84, 32, 73, 78, 84, 79, 32, 73, 82, 69, 84, 32, 82, 79, 76, 32, 82, 79, 82, 32, 82, 67, 76, 32, 82, 67, 82, 32, 83, 72, 76, 32, 83, 72, 82, 32, 83, 65, 82, 32, 65, 65, 77, 32, 65, 65, 68, 32, 88, 76, 65, 84, 32, 69, 83, 67, 32, 76, 79, 79, 80, 78, 90, 32, 76, 79, 79, 80, 90, 32, 76, 79, 79, 80, 32, 74, 67, 88, 90, 32, 73, 78, 32, 79, 85, 84, 32, 74, 77, 80, 32, 74, 77, 80, 70, 32, 72, 76, 84, 32, 67, 77, 67, 32, 78, 79, 84, 32, 78, 69, 71, 32, 77, 85, 76, 32, 73, 77, 85, 76, 32, 68, 73, 86, 32, 73, 68, 73, 86, 32, 67, 76, 67, 32, 83, 84, 67, 32, 67, 76, 73, 32, 83, 84, 73, 32, 67, 76, 68, 32, 83, 84, 68, 32]
def K04 : List Nat := [69, 98, 32, 69, 118, 32, 71, 98, 32, 71, 118, 32, 83, 119, 32, 73, 98, 32, 73, 118, 32, 73, 115, 32, 74, 98, 32, 74, 118, 32, 65, 112, 32, 79, 98, 32, 79, 118, 32, 65, 76, 32, 67, 76, 32, 65, 88, 32, 68, 88, 32, 79, 110, 101, 32, 77, 112, 32, 77, 32, 90, 98, 32, 90, 118, 32, 90, 115, 32, 84, 104, 114, 101, 101, 32]

def entryL (op reg : Nat) : List Nat := if (wordL T04 op).head? = some 47 then partL 47 (wordL T04 op) (reg % 8 + 1) else wordL T04 op
def secK (k : Nat) : Bool := (decide (1 ≤ k) && decide (k ≤ 5)) || k == 19 || k == 20
def rowOfL (s : List Nat) : Option IRow :=
  if s = [45] ∨ s = [] then none else
  some ⟨findL N04 (partL 58 s 0), findL K04 (partL 58 s 1), findL K04 (partL 58 s 2), secK (findL K04 (partL 58 s 1)) || secK (findL K04 (partL 58 s 2))⟩
def rowL (op reg : Nat) : Option IRow := rowOfL (entryL op reg)
instance decRow : DecidableEq IRow := fun x y => decidable_of_iff (x.name = y.name ∧ x.a = y.a ∧ x.b = y.b ∧ x.mod = y.mod) (by cases x; cases y; simp)
def entOf (s : List Nat) (reg : Nat) : List Nat := if s.head? = some 47 then partL 47 s (reg % 8 + 1) else s
def chk1 (s : List Nat) (op : Nat) : Bool :=
  if s.head? = some 47 then (List.range 8).all fun reg => decide (rowOfL (partL 47 s (reg + 1)) = isaOf op reg)
  else (let r := rowOfL s; (List.range 8).all fun reg => decide (r = isaOf op reg))
def chkA : List (List Nat) → Nat → Bool
  | [], _ => true
  | s :: r, op => chk1 s op && chkA r (op + 1)
theorem chk_all : chkA (wordsA T04 []) 0 = true ∧ (wordsA T04 []).length = 256 := by decide +kernel
theorem chkA_get (l : List (List Nat)) (o : Nat) (h : chkA l o = true) : ∀ k, k < l.length → chk1 (l.getD k []) (o + k) = true := by
  induction l generalizing o with
  | nil => intro k hk; simp at hk
  | cons s r ih =>
    rw [chkA, Bool.and_eq_true] at h
    intro k hk
    cases k with
    | zero => exact h.1
    | succ k =>
      have := ih (o + 1) h.2 k (by simpa using hk)
      rw [show o + (k + 1) = o + 1 + k by omega]
      simpa using this
theorem rowL_isa (op reg : Nat) (h1 : op < 256) (h2 : reg < 8) : rowL op reg = isaOf op reg := by
  have h := chkA_get _ _ chk_all.1 op (by rw [chk_all.2]; exact h1)
  rw [← wordsA_word, Nat.zero_add] at h
  unfold rowL entryL
  unfold chk1 at h
  have hm : reg % 8 = reg := Nat.mod_eq_of_lt h2
  rw [hm]
  split at h
  · next e =>
    rw [if_pos e]
    have := List.all_eq_true.1 h reg (List.mem_range.2 h2)
    simpa using this
  · next e =>
    rw [if_neg e]
    have := List.all_eq_true.1 h reg (List.mem_range.2 h2)
    simpa using this
theorem rowL_mod (op reg : Nat) : rowL op (reg % 8) = rowL op reg := by
  unfold rowL entryL
  rw [Nat.mod_mod]
def grpL (op : Nat) : Bool := decide ((wordL T04 op).head? = some 47) && op != 140 && op != 142
/-- The groups, in plain numbers. -/
def grpOf (op : Int) : Bool := op == 128 || op == 129 || op == 131 || op == 143 || op == 198 || op == 199 || (decide (208 ≤ op) && decide (op ≤ 211)) || op == 246 || op == 247 || op == 254 || op == 255
def grpA : List (List Nat) → Nat → Bool
  | [], _ => true
  | s :: r, op => ((decide (s.head? = some 47) && op != 140 && op != 142) == grpOf op) && grpA r (op + 1)
theorem grp_all : grpA (wordsA T04 []) 0 = true := by decide +kernel
theorem grpA_get (l : List (List Nat)) (o : Nat) (h : grpA l o = true) : ∀ k, k < l.length → (decide ((l.getD k []).head? = some 47) && (o + k) != 140 && (o + k) != 142) = grpOf ((o + k : Nat) : Int) := by
  induction l generalizing o with
  | nil => intro k hk; simp at hk
  | cons s r ih =>
    rw [grpA, Bool.and_eq_true] at h
    intro k hk
    cases k with
    | zero => simpa using h.1
    | succ k =>
      have := ih (o + 1) h.2 k (by simpa using hk)
      rw [show o + (k + 1) = o + 1 + k by omega]
      simpa using this
theorem grpL_of (op : Nat) (h1 : op < 256) : grpL op = grpOf op := by
  have h := grpA_get _ _ grp_all op (by rw [chk_all.2]; exact h1)
  rw [← wordsA_word, Nat.zero_add] at h
  exact h
/-- Which instructions may be repeated, by their names. -/
def repL (n : Nat) : Nat :=
  let s := if n < 1 ∨ 95 < n then [63] else wordL N04 (n - 1)
  if s = [77, 79, 86, 83, 66] ∨ s = [77, 79, 86, 83, 87] ∨ s = [83, 84, 79, 83, 66] ∨ s = [83, 84, 79, 83, 87] ∨ s = [76, 79, 68, 83, 66] ∨ s = [76, 79, 68, 83, 87] then 1
  else if s = [67, 77, 80, 83, 66] ∨ s = [67, 77, 80, 83, 87] ∨ s = [83, 67, 65, 83, 66] ∨ s = [83, 67, 65, 83, 87] then 2 else 0
theorem repL_of (n : Nat) (h : n ≤ 95) : (repL n : Int) = repsOf n := by
  have key : ∀ m : Fin 96, (repL m.val : Int) = repsOf ((m.val : Nat) : Int) := by decide +kernel
  exact key ⟨n, by omega⟩
theorem T04_ok : bytesOk T04 := by intro x hx; revert x; decide +kernel
theorem N04_ok : bytesOk N04 := by intro x hx; revert x; decide +kernel
theorem K04_ok : bytesOk K04 := by intro x hx; revert x; decide +kernel
end Go.Proofs.YtcglkefaopgjeaaGreatDoor

/- The reference's table: names, rows, bytes behind: walks. -/
namespace Go.Proofs.YtcglkefaopgjeaaGreatDoor
set_option linter.unusedSimpArgs false
set_option linter.unusedVariables false
open Go.RowKit

theorem calls_text {P : Program} {f : FuncId} {s t : ByteArray} {v : Value} {w : World} {K : Ending → World → Prop} (h : s = t) (hc : Calls P f #[.string t, v] w K) : Calls P f #[.string s, v] w K := h ▸ hc
theorem skipW_sub (l : List Nat) (n : Nat) : (∀ x ∈ skipW l n, x ∈ l) ∧ (skipW l n).length ≤ l.length := by
  induction n generalizing l with
  | zero => cases l <;> exact ⟨fun x hx => hx, Nat.le_refl _⟩
  | succ n ih =>
    cases l with
    | nil => exact ⟨fun x hx => hx, Nat.le_refl _⟩
    | cons c r =>
      have h := ih (((c :: r).dropWhile (· != 32)).drop 1)
      have hs : ((c :: r).dropWhile (· != 32)).drop 1 <:+ (c :: r) := (List.drop_suffix _ _).trans (List.dropWhile_suffix _)
      exact ⟨fun x hx => hs.subset (h.1 x hx), Nat.le_trans h.2 hs.length_le⟩
theorem wordL_ok {l : List Nat} (hl : bytesOk l) (n : Nat) : bytesOk (wordL l n) := fun x hx => hl x ((skipW_sub l n).1 x ((List.takeWhile_prefix _).subset hx))
theorem wordL_le (l : List Nat) (n : Nat) : (wordL l n).length ≤ l.length := Nat.le_trans (List.takeWhile_prefix _).length_le (skipW_sub l n).2
theorem partL_sub (m : Nat) (l : List Nat) (n : Nat) : (∀ x ∈ partL m l n, x ∈ l) ∧ (partL m l n).length ≤ l.length := by
  induction n generalizing l with
  | zero => exact ⟨fun x hx => (List.takeWhile_prefix _).subset hx, (List.takeWhile_prefix _).length_le⟩
  | succ n ih =>
    rw [partL]
    split
    · exact ⟨fun x hx => (by cases hx), Nat.zero_le _⟩
    · next c r h =>
      have hs : r <:+ l := (List.suffix_cons c r).trans (h ▸ List.dropWhile_suffix _)
      exact ⟨fun x hx => hs.subset ((ih r).1 x hx), Nat.le_trans (ih r).2 hs.length_le⟩
theorem partL_ok {l : List Nat} (hl : bytesOk l) (m n : Nat) : bytesOk (partL m l n) := fun x hx => hl x ((partL_sub m l n).1 x hx)
theorem entryL_ok (op reg : Nat) : bytesOk (entryL op reg) ∧ (entryL op reg).length ≤ 2651 := by
  have h := wordL_le T04 op
  have h2 := (partL_sub 47 (wordL T04 op) (reg % 8 + 1)).2
  have hl : T04.length = 2651 := by decide +kernel
  unfold entryL
  split
  · exact ⟨partL_ok (wordL_ok T04_ok op) _ _, by omega⟩
  · exact ⟨wordL_ok T04_ok op, by omega⟩
theorem T04_len : T04.length = 2651 := by decide +kernel
theorem N04_len : N04.length = 416 := by decide +kernel
theorem K04_len : K04.length = 75 := by decide +kernel

set_option maxRecDepth 100000 in
set_option maxHeartbeats 3200000 in
theorem entry_any4 (op reg : Nat) (h1 : op < 256) (h2 : reg < 8) (w : World) : Calls Tryz.prog 142 #[.int .u8 op, .int .i64 reg] w fun e w' => e = .returned (.string (B (entryL op reg))) ∧ w = w' := by
  go_enter Tryz.func142, Tryz.ntmps142
  go_wp2_with fail
  refine calls_text (t := B T04) (by kernel_rfl) ?_
  refine (word_any4 T04 T04_ok (by rw [T04_len]; omega) op (by omega) _).mono ?_
  rintro e w1 ⟨rfl, rfl⟩; dsimp only
  have hok : bytesOk (wordL T04 op) := wordL_ok T04_ok op
  have hle : (wordL T04 op).length ≤ 100000 := Nat.le_trans (wordL_le T04 op) (by rw [T04_len]; omega)
  have HE := Lib.hid (show entryL op reg = if (wordL T04 op).head? = some 47 then partL 47 (wordL T04 op) (reg % 8 + 1) else wordL T04 op from rfl)
  generalize wordL T04 op = s at hok hle HE ⊢
  have hs := B_size s
  cases s with
  | nil =>
    have i1 : ¬ 0 < (B []).size := by simp [hs]
    go_wp2_with fail
    all_goals
      go_ret
      rw [HE.out, if_neg (by simp)]
      exact ⟨rfl, rfl⟩
  | cons c r =>
    by_cases hc : c = 47
    · subst hc
      have i1 : 0 < (B (47 :: r)).size := by simp [hs]
      have i2 := B_get (47 :: r) hok 0 i1
      have i3 : (((B (47 :: r))[0].toNat : Int) == 47) = true := by rw [i2]; rfl
      go_wp2_with fail
      refine (part_int (47 :: r) hok hle 47 (by decide) (reg + 1) (by omega) _ _ (by rfl) (by rw [i64_and7]; unfold wrap64; omega) _).mono ?_
      rintro e w1 ⟨rfl, rfl⟩; dsimp only
      go_wp2_with fail
      go_ret
      rw [HE.out, if_pos (by simp), Nat.mod_eq_of_lt h2]
      exact ⟨rfl, rfl⟩
    · have i1 : 0 < (B (c :: r)).size := by simp [hs]
      have i2 := B_get (c :: r) hok 0 i1
      have i3 : (((B (c :: r))[0].toNat : Int) == 47) = false := by rw [i2]; simp; omega
      go_wp2_with fail
      all_goals
        go_ret
        rw [HE.out, if_neg (by simpa using hc)]
        exact ⟨rfl, rfl⟩

set_option maxRecDepth 100000 in
set_option maxHeartbeats 3200000 in
theorem grouped_any4 (op : Nat) (h1 : op < 256) (w : World) : Calls Tryz.prog 65 #[.int .u8 op] w fun e w' => e = .returned (.bool (grpOf op)) ∧ w = w' := by
  rw [← grpL_of op h1]
  go_enter Tryz.func65, Tryz.ntmps65
  go_wp2_with fail
  refine calls_text (t := B T04) (by kernel_rfl) ?_
  refine (word_any4 T04 T04_ok (by rw [T04_len]; omega) op (by omega) _).mono ?_
  rintro e w1 ⟨rfl, rfl⟩; dsimp only
  have hok : bytesOk (wordL T04 op) := wordL_ok T04_ok op
  have HE := Lib.hid (show grpL op = (decide ((wordL T04 op).head? = some 47) && op != 140 && op != 142) from rfl)
  generalize wordL T04 op = s at hok HE ⊢
  have hs := B_size s
  cases s with
  | nil =>
    have i1 : ¬ 0 < (B []).size := by simp [hs]
    go_wp2_with fail
    all_goals
      go_ret
      rw [HE.out]
      exact ⟨rfl, rfl⟩
  | cons c r =>
    by_cases hc : c = 47
    · subst hc
      have i1 : 0 < (B (47 :: r)).size := by simp [hs]
      have i2 := B_get (47 :: r) hok 0 i1
      have i3 : (((B (47 :: r))[0].toNat : Int) == 47) = true := by rw [i2]; rfl
      by_cases a1 : op = 140
      · have a2 : ((op : Int) != 140) = false := by rw [a1]; rfl
        clear a1
        go_wp2_with fail
        all_goals
          go_ret
          rw [HE.out, show (op != 140) = false by have : ¬ (op : Int) ≠ 140 := by simpa using a2
                                                  simp; omega]
          exact ⟨by simp, rfl⟩
      · have a2 : ((op : Int) != 140) = true := by simp; omega
        by_cases b1 : op = 142
        · have b2 : ((op : Int) != 142) = false := by rw [b1]; rfl
          have HX := Lib.hid b1
          clear a1 b1
          go_wp2_with fail
          all_goals
            go_ret
            rw [HE.out, HX.out]
            exact ⟨by simp, rfl⟩
        · have b2 : ((op : Int) != 142) = true := by simp; omega
          have HX := Lib.hid a1
          have HY := Lib.hid b1
          clear a1 b1
          go_wp2_with fail
          all_goals
            go_ret
            rw [HE.out]
            exact ⟨by simp [HX.out, HY.out], rfl⟩
    · have i1 : 0 < (B (c :: r)).size := by simp [hs]
      have i2 := B_get (c :: r) hok 0 i1
      have i3 : (((B (c :: r))[0].toNat : Int) == 47) = false := by rw [i2]; simp; omega
      go_wp2_with fail
      all_goals
        go_ret
        rw [HE.out]
        exact ⟨by simp [hc], rfl⟩
end Go.Proofs.YtcglkefaopgjeaaGreatDoor

/- The reference's table: names, rows, bytes behind: walks. -/
namespace Go.Proofs.YtcglkefaopgjeaaGreatDoor
set_option linter.unusedSimpArgs false
set_option linter.unusedVariables false
open Go.RowKit

def nameL (n : Nat) : List Nat := if n < 1 ∨ 95 < n then [63] else wordL N04 (n - 1)
theorem nameL_ok (n : Nat) : bytesOk (nameL n) := by
  unfold nameL
  split
  · intro x hx; simp at hx; omega
  · exact wordL_ok N04_ok _
theorem B_63 : ({ data := #[63] } : ByteArray) = B [63] := by kernel_rfl

set_option maxRecDepth 100000 in
set_option maxHeartbeats 3200000 in
theorem name_any4 (n : Nat) (hn : n ≤ 100000) (w : World) : Calls Tryz.prog 95 #[.int .i64 n] w fun e w' => e = .returned (.string (B (nameL n))) ∧ w = w' := by
  have HE := Lib.hid (show nameL n = if n < 1 ∨ 95 < n then [63] else wordL N04 (n - 1) from rfl)
  by_cases h1 : n < 1
  · have i1 : (n : Int) < 1 := by omega
    go_enter Tryz.func95, Tryz.ntmps95
    go_wp2_with fail
    go_ret
    rw [HE.out, if_pos (Or.inl h1), ← B_63]
    exact ⟨rfl, rfl⟩
  · have i1 : ¬ (n : Int) < 1 := by omega
    by_cases h2 : 95 < n
    · have i2 : (95 : Int) < (n : Int) := by omega
      go_enter Tryz.func95, Tryz.ntmps95
      go_wp2_with fail
      go_ret
      rw [HE.out, if_pos (Or.inr h2), ← B_63]
      exact ⟨rfl, rfl⟩
    · have i2 : ¬ (95 : Int) < (n : Int) := by omega
      go_enter Tryz.func95, Tryz.ntmps95
      go_wp2_with fail
      refine calls_text (t := B N04) (by kernel_rfl) ?_
      refine (word_int N04 N04_ok (by rw [N04_len]; omega) (n - 1) (by omega) _ (by first | omega | (unfold wrap64; omega)) _).mono ?_
      rintro e w1 ⟨rfl, rfl⟩; dsimp only
      go_wp2_with fail
      go_ret
      rw [HE.out, if_neg (by omega)]
      exact ⟨rfl, rfl⟩

set_option maxRecDepth 100000 in
set_option maxHeartbeats 3200000 in
theorem findName_any4 (x : List Nat) (hx : bytesOk x) (w : World) : Calls Tryz.prog 143 #[.string (B x)] w fun e w' => e = .returned (.int .i64 (findL N04 x)) ∧ w = w' := by
  go_enter Tryz.func143, Tryz.ntmps143
  go_wp2_with fail
  refine calls_text (t := B N04) (by kernel_rfl) ?_
  refine (find_any4 N04 N04_ok (by rw [N04_len]; omega) x hx _).mono ?_
  rintro e w1 ⟨rfl, rfl⟩; dsimp only
  go_wp2_with fail
  go_ret
  exact ⟨rfl, rfl⟩

set_option maxRecDepth 100000 in
set_option maxHeartbeats 3200000 in
theorem second_any4 (k : Nat) (w : World) : Calls Tryz.prog 146 #[.int .i64 k] w fun e w' => e = .returned (.bool (secK k)) ∧ w = w' := by
  have hc : (1 ≤ k ∧ k ≤ 5) ∨ k = 19 ∨ k = 20 ∨ (¬ (1 ≤ k ∧ k ≤ 5) ∧ k ≠ 19 ∧ k ≠ 20) := by omega
  rcases hc with ⟨a, b⟩ | rfl | rfl | ⟨a, b, c⟩
  · have i1 : (1 : Int) ≤ k := by omega
    have i2 : (k : Int) ≤ 5 := by omega
    go_enter Tryz.func146, Tryz.ntmps146
    go_wp2_with fail
    go_ret
    exact ⟨by simp [secK, a, b], rfl⟩
  · go_enter Tryz.func146, Tryz.ntmps146
    go_wp2_with fail
    go_ret
    exact ⟨by rfl, rfl⟩
  · go_enter Tryz.func146, Tryz.ntmps146
    go_wp2_with fail
    go_ret
    exact ⟨by rfl, rfl⟩
  · have HC := Lib.hid (show secK k = false by simp [secK, b, c]; omega)
    have j1 : ((k : Int) == 19) = false := by simp; omega
    have j2 : ((k : Int) == 20) = false := by simp; omega
    have hcc : ¬ (1 : Int) ≤ k ∨ ((1 : Int) ≤ k ∧ ¬ (k : Int) ≤ 5) := by omega
    clear a b c
    rcases hcc with i1 | ⟨i1, i2⟩
    · go_enter Tryz.func146, Tryz.ntmps146
      go_wp2_with fail
      go_ret
      exact ⟨by rw [HC.out]; rfl, rfl⟩
    · go_enter Tryz.func146, Tryz.ntmps146
      go_wp2_with fail
      go_ret
      exact ⟨by rw [HC.out]; rfl, rfl⟩

set_option maxHeartbeats 3200000 in
theorem bytes_any4 (k : Int) (w : World) : Calls Tryz.prog 46 #[.int .i64 k] w fun e w' => e = .returned (.int .i64 (immOf k)) ∧ w = w' := by
  have hc : k = 6 ∨ k = 8 ∨ k = 9 ∨ k = 7 ∨ k = 10 ∨ k = 12 ∨ k = 13 ∨ k = 11 ∨ (k ≠ 6 ∧ k ≠ 8 ∧ k ≠ 9 ∧ k ≠ 7 ∧ k ≠ 10 ∧ k ≠ 12 ∧ k ≠ 13 ∧ k ≠ 11) := by omega
  rcases hc with rfl | rfl | rfl | rfl | rfl | rfl | rfl | rfl | ⟨a1, a2, a3, a4, a5, a6, a7, a8⟩
  case inr.inr.inr.inr.inr.inr.inr.inr =>
    have HE := Lib.hid (show immOf k = 0 by unfold immOf; rw [if_neg (by omega), if_neg (by omega), if_neg (by omega)])
    have b1 : (k == 6) = false := by simpa using a1
    have b2 : (k == 8) = false := by simpa using a2
    have b3 : (k == 9) = false := by simpa using a3
    have b4 : (k == 7) = false := by simpa using a4
    have b5 : (k == 10) = false := by simpa using a5
    have b6 : (k == 12) = false := by simpa using a6
    have b7 : (k == 13) = false := by simpa using a7
    have b8 : (k == 11) = false := by simpa using a8
    clear a1 a2 a3 a4 a5 a6 a7 a8
    go_enter Tryz.func46, Tryz.ntmps46
    go_wp2_with fail
    go_ret
    rw [HE.out]
    exact ⟨rfl, rfl⟩
  all_goals
    go_enter Tryz.func46, Tryz.ntmps46
    go_wp2_with fail
    go_ret
    exact ⟨rfl, rfl⟩

set_option maxHeartbeats 3200000 in
theorem disps_any5 (mod rm : Int) (w : World) : Calls Tryz.prog 44 #[.int .i64 mod, .int .i64 rm] w fun e w' => e = .returned (.int .i64 (dispsOf mod rm)) ∧ w = w' := by
  have hc : mod = 1 ∨ mod = 2 ∨ (mod = 0 ∧ rm = 6) ∨ (mod = 0 ∧ rm ≠ 6) ∨ (mod ≠ 0 ∧ mod ≠ 1 ∧ mod ≠ 2) := by omega
  rcases hc with rfl | rfl | ⟨rfl, rfl⟩ | ⟨rfl, h⟩ | ⟨g0, g1, g2⟩
  · go_enter Tryz.func44, Tryz.ntmps44
    go_wp2
    go_ret
    exact ⟨rfl, rfl⟩
  · go_enter Tryz.func44, Tryz.ntmps44
    go_wp2
    go_ret
    exact ⟨rfl, rfl⟩
  · go_enter Tryz.func44, Tryz.ntmps44
    go_wp2
    go_ret
    exact ⟨rfl, rfl⟩
  · have t : (rm == 6) = false := by simpa using h
    have HE := Lib.hid (show dispsOf 0 rm = 0 by simp [dispsOf, h])
    clear h
    go_enter Tryz.func44, Tryz.ntmps44
    go_wp2
    go_ret
    rw [HE.out]
    exact ⟨rfl, rfl⟩
  · have t0 : (mod == 0) = false := by simpa using g0
    have t1 : (mod == 1) = false := by simpa using g1
    have t2 : (mod == 2) = false := by simpa using g2
    have HE := Lib.hid (show dispsOf mod rm = 0 by simp [dispsOf, g0, g1, g2])
    clear g0 g1 g2
    go_enter Tryz.func44, Tryz.ntmps44
    go_wp2
    go_ret
    rw [HE.out]
    exact ⟨rfl, rfl⟩

set_option maxHeartbeats 3200000 in
theorem sign_any1 (b : Int) (w : World) (h0 : 0 ≤ b) (h1 : b ≤ 255) : Calls Tryz.prog 45 #[.int .u8 b] w fun e w' => e = .returned (.int .u16 (signW b)) ∧ w = w' := by
  have HE := Lib.hid (show signW b = if b < 128 then b else b + 65280 from rfl)
  by_cases h : b < 128
  · go_enter Tryz.func45, Tryz.ntmps45
    go_wp2
    go_ret
    rw [HE.out, if_pos h]
    exact ⟨by first | rfl | (refine ret_int ?_; rw [IntKind.wrap_u16]; omega), rfl⟩
  · go_enter Tryz.func45, Tryz.ntmps45
    go_wp2
    go_ret
    rw [HE.out, if_neg (by omega)]
    exact ⟨by refine ret_int ?_; first | omega | (rw [IntKind.wrap_u16]; omega), rfl⟩

theorem fitsB_iff (x : Int) (h0 : 0 ≤ x) (h1 : x ≤ 65535) : fitsB x = (decide (x < 128) || decide (65408 ≤ x)) := by
  unfold fitsB signW
  rw [Bool.eq_iff_iff]
  simp only [beq_iff_eq, Bool.or_eq_true, decide_eq_true_eq]
  split <;> omega
set_option maxHeartbeats 3200000 in
theorem fits_any1 (x : Int) (w : World) (h0 : 0 ≤ x) (h1 : x ≤ 65535) : Calls Tryz.prog 96 #[.int .u16 x] w fun e w' => e = .returned (.bool (fitsB x)) ∧ w = w' := by
  have HE := Lib.hid (fitsB_iff x h0 h1)
  by_cases h : x < 128
  · go_enter Tryz.func96, Tryz.ntmps96
    go_wp2
    go_ret
    rw [HE.out]
    exact ⟨by simp [h], rfl⟩
  · go_enter Tryz.func96, Tryz.ntmps96
    go_wp2
    all_goals
      go_ret
      rw [HE.out]
      exact ⟨by simp_all <;> omega, rfl⟩
set_option maxHeartbeats 400000 in
theorem prefix_any5 (c : Int) (w : World) : Calls Tryz.prog 93 #[.int .u8 c] w fun e w' => e = .returned (.bool (isPre c)) ∧ w = w' := by
  have hc : (c = 38 ∨ c = 46 ∨ c = 54 ∨ c = 62 ∨ c = 240 ∨ c = 242 ∨ c = 243) ∨ ((c == 38) = false ∧ (c == 46) = false ∧ (c == 54) = false ∧ (c == 62) = false ∧ (c == 240) = false ∧ (c == 242) = false ∧ (c == 243) = false) := by
    simp only [beq_eq_false_iff_ne]; omega
  rcases hc with (rfl | rfl | rfl | rfl | rfl | rfl | rfl) | ⟨h1, h2, h3, h4, h5, h6, h7⟩
  all_goals
    go_enter Tryz.func93, Tryz.ntmps93
    go_wp2
    go_ret
    exact ⟨by simp [isPre, *], rfl⟩
end Go.Proofs.YtcglkefaopgjeaaGreatDoor

/- The reference's table: which are repeated; rows. -/
namespace Go.Proofs.YtcglkefaopgjeaaGreatDoor
set_option linter.unusedSimpArgs false
set_option linter.unusedVariables false
open Go.RowKit

theorem repL_name (n : Nat) : repL n = if nameL n = [77, 79, 86, 83, 66] ∨ nameL n = [77, 79, 86, 83, 87] ∨ nameL n = [83, 84, 79, 83, 66] ∨ nameL n = [83, 84, 79, 83, 87] ∨ nameL n = [76, 79, 68, 83, 66] ∨ nameL n = [76, 79, 68, 83, 87] then 1 else if nameL n = [67, 77, 80, 83, 66] ∨ nameL n = [67, 77, 80, 83, 87] ∨ nameL n = [83, 67, 65, 83, 66] ∨ nameL n = [83, 67, 65, 83, 87] then 2 else 0 := rfl
set_option maxRecDepth 100000 in
set_option maxHeartbeats 3200000 in
theorem repeats_any4 (n : Nat) (hn : n ≤ 95) (w : World) : Calls Tryz.prog 47 #[.int .i64 n] w fun e w' => e = .returned (.int .i64 (repsOf n)) ∧ w = w' := by
  have HE := Lib.hid ((repL_of n hn).symm.trans (congrArg (fun z : Nat => (z : Int)) (repL_name n)))
  have hok := nameL_ok n
  go_enter Tryz.func47, Tryz.ntmps47
  go_wp2_with fail
  refine (name_any4 n (by omega) _).mono ?_
  rintro e w1 ⟨rfl, rfl⟩; dsimp only
  generalize nameL n = s at hok HE ⊢
  have f0 : ∀ x : List Nat, bytesOk x → ((B s).toList == (B x).toList) = decide (s = x) := fun x hx => B_beq s x hok hx
  have t0 : ({ data := #[77, 79, 86, 83, 66] } : ByteArray) = B [77, 79, 86, 83, 66] := by kernel_rfl
  have t1 : ({ data := #[77, 79, 86, 83, 87] } : ByteArray) = B [77, 79, 86, 83, 87] := by kernel_rfl
  have t2 : ({ data := #[83, 84, 79, 83, 66] } : ByteArray) = B [83, 84, 79, 83, 66] := by kernel_rfl
  have t3 : ({ data := #[83, 84, 79, 83, 87] } : ByteArray) = B [83, 84, 79, 83, 87] := by kernel_rfl
  have t4 : ({ data := #[76, 79, 68, 83, 66] } : ByteArray) = B [76, 79, 68, 83, 66] := by kernel_rfl
  have t5 : ({ data := #[76, 79, 68, 83, 87] } : ByteArray) = B [76, 79, 68, 83, 87] := by kernel_rfl
  have t6 : ({ data := #[67, 77, 80, 83, 66] } : ByteArray) = B [67, 77, 80, 83, 66] := by kernel_rfl
  have t7 : ({ data := #[67, 77, 80, 83, 87] } : ByteArray) = B [67, 77, 80, 83, 87] := by kernel_rfl
  have t8 : ({ data := #[83, 67, 65, 83, 66] } : ByteArray) = B [83, 67, 65, 83, 66] := by kernel_rfl
  have t9 : ({ data := #[83, 67, 65, 83, 87] } : ByteArray) = B [83, 67, 65, 83, 87] := by kernel_rfl
  have u0 := f0 [77, 79, 86, 83, 66] (by intro x hx; revert x; decide)
  rw [← t0, ByteArray.toList_mk [77, 79, 86, 83, 66]] at u0
  have u1 := f0 [77, 79, 86, 83, 87] (by intro x hx; revert x; decide)
  rw [← t1, ByteArray.toList_mk [77, 79, 86, 83, 87]] at u1
  have u2 := f0 [83, 84, 79, 83, 66] (by intro x hx; revert x; decide)
  rw [← t2, ByteArray.toList_mk [83, 84, 79, 83, 66]] at u2
  have u3 := f0 [83, 84, 79, 83, 87] (by intro x hx; revert x; decide)
  rw [← t3, ByteArray.toList_mk [83, 84, 79, 83, 87]] at u3
  have u4 := f0 [76, 79, 68, 83, 66] (by intro x hx; revert x; decide)
  rw [← t4, ByteArray.toList_mk [76, 79, 68, 83, 66]] at u4
  have u5 := f0 [76, 79, 68, 83, 87] (by intro x hx; revert x; decide)
  rw [← t5, ByteArray.toList_mk [76, 79, 68, 83, 87]] at u5
  have u6 := f0 [67, 77, 80, 83, 66] (by intro x hx; revert x; decide)
  rw [← t6, ByteArray.toList_mk [67, 77, 80, 83, 66]] at u6
  have u7 := f0 [67, 77, 80, 83, 87] (by intro x hx; revert x; decide)
  rw [← t7, ByteArray.toList_mk [67, 77, 80, 83, 87]] at u7
  have u8 := f0 [83, 67, 65, 83, 66] (by intro x hx; revert x; decide)
  rw [← t8, ByteArray.toList_mk [83, 67, 65, 83, 66]] at u8
  have u9 := f0 [83, 67, 65, 83, 87] (by intro x hx; revert x; decide)
  rw [← t9, ByteArray.toList_mk [83, 67, 65, 83, 87]] at u9
  clear f0
  clear t0 t1 t2 t3 t4 t5 t6 t7 t8 t9
  obtain ⟨b0, v0⟩ : ∃ b, decide (s = [77, 79, 86, 83, 66]) = b := ⟨_, rfl⟩
  rw [v0] at u0
  have V0 := Lib.hid v0
  clear v0
  obtain ⟨b1, v1⟩ : ∃ b, decide (s = [77, 79, 86, 83, 87]) = b := ⟨_, rfl⟩
  rw [v1] at u1
  have V1 := Lib.hid v1
  clear v1
  obtain ⟨b2, v2⟩ : ∃ b, decide (s = [83, 84, 79, 83, 66]) = b := ⟨_, rfl⟩
  rw [v2] at u2
  have V2 := Lib.hid v2
  clear v2
  obtain ⟨b3, v3⟩ : ∃ b, decide (s = [83, 84, 79, 83, 87]) = b := ⟨_, rfl⟩
  rw [v3] at u3
  have V3 := Lib.hid v3
  clear v3
  obtain ⟨b4, v4⟩ : ∃ b, decide (s = [76, 79, 68, 83, 66]) = b := ⟨_, rfl⟩
  rw [v4] at u4
  have V4 := Lib.hid v4
  clear v4
  obtain ⟨b5, v5⟩ : ∃ b, decide (s = [76, 79, 68, 83, 87]) = b := ⟨_, rfl⟩
  rw [v5] at u5
  have V5 := Lib.hid v5
  clear v5
  obtain ⟨b6, v6⟩ : ∃ b, decide (s = [67, 77, 80, 83, 66]) = b := ⟨_, rfl⟩
  rw [v6] at u6
  have V6 := Lib.hid v6
  clear v6
  obtain ⟨b7, v7⟩ : ∃ b, decide (s = [67, 77, 80, 83, 87]) = b := ⟨_, rfl⟩
  rw [v7] at u7
  have V7 := Lib.hid v7
  clear v7
  obtain ⟨b8, v8⟩ : ∃ b, decide (s = [83, 67, 65, 83, 66]) = b := ⟨_, rfl⟩
  rw [v8] at u8
  have V8 := Lib.hid v8
  clear v8
  obtain ⟨b9, v9⟩ : ∃ b, decide (s = [83, 67, 65, 83, 87]) = b := ⟨_, rfl⟩
  rw [v9] at u9
  have V9 := Lib.hid v9
  clear v9
  cases b0
  case true =>
    have HQ := Lib.hid (of_decide_eq_true V0.out)
    go_wp2_with fail
    all_goals
      go_ret
      rw [HE.out, HQ.out]
      exact ⟨rfl, rfl⟩
  cases b1
  case true =>
    have HQ := Lib.hid (of_decide_eq_true V1.out)
    go_wp2_with fail
    all_goals
      go_ret
      rw [HE.out, HQ.out]
      exact ⟨rfl, rfl⟩
  cases b2
  case true =>
    have HQ := Lib.hid (of_decide_eq_true V2.out)
    go_wp2_with fail
    all_goals
      go_ret
      rw [HE.out, HQ.out]
      exact ⟨rfl, rfl⟩
  cases b3
  case true =>
    have HQ := Lib.hid (of_decide_eq_true V3.out)
    go_wp2_with fail
    all_goals
      go_ret
      rw [HE.out, HQ.out]
      exact ⟨rfl, rfl⟩
  cases b4
  case true =>
    have HQ := Lib.hid (of_decide_eq_true V4.out)
    go_wp2_with fail
    all_goals
      go_ret
      rw [HE.out, HQ.out]
      exact ⟨rfl, rfl⟩
  cases b5
  case true =>
    have HQ := Lib.hid (of_decide_eq_true V5.out)
    go_wp2_with fail
    all_goals
      go_ret
      rw [HE.out, HQ.out]
      exact ⟨rfl, rfl⟩
  cases b6
  case true =>
    have HQ := Lib.hid (of_decide_eq_true V6.out)
    go_wp2_with fail
    all_goals
      go_ret
      rw [HE.out, HQ.out]
      exact ⟨rfl, rfl⟩
  cases b7
  case true =>
    have HQ := Lib.hid (of_decide_eq_true V7.out)
    go_wp2_with fail
    all_goals
      go_ret
      rw [HE.out, HQ.out]
      exact ⟨rfl, rfl⟩
  cases b8
  case true =>
    have HQ := Lib.hid (of_decide_eq_true V8.out)
    go_wp2_with fail
    all_goals
      go_ret
      rw [HE.out, HQ.out]
      exact ⟨rfl, rfl⟩
  cases b9
  case true =>
    have HQ := Lib.hid (of_decide_eq_true V9.out)
    go_wp2_with fail
    all_goals
      go_ret
      rw [HE.out, HQ.out]
      exact ⟨rfl, rfl⟩
  go_wp2_with fail
  all_goals
    go_ret
    rw [HE.out, if_neg (by simp [of_decide_eq_false V0.out, of_decide_eq_false V1.out, of_decide_eq_false V2.out, of_decide_eq_false V3.out, of_decide_eq_false V4.out, of_decide_eq_false V5.out]), if_neg (by simp [of_decide_eq_false V6.out, of_decide_eq_false V7.out, of_decide_eq_false V8.out, of_decide_eq_false V9.out])]
    exact ⟨rfl, rfl⟩
end Go.Proofs.YtcglkefaopgjeaaGreatDoor

/- The reference's rows of instructions: walks. -/
namespace Go.Proofs.YtcglkefaopgjeaaGreatDoor
set_option linter.unusedSimpArgs false
set_option linter.unusedVariables false
open Go.RowKit

theorem rowOfL_none (s : List Nat) (h : s = [45] ∨ s = []) : rowOfL s = none := by unfold rowOfL; rw [if_pos h]
theorem B_45 : ({ data := #[45] } : ByteArray) = B [45] := by kernel_rfl
set_option maxRecDepth 100000 in
set_option maxHeartbeats 3200000 in
theorem row_any4 (op reg : Nat) (h1 : op < 256) (h2 : reg < 8) (w : World) : Calls Tryz.prog 94 #[.int .u8 op, .int .i64 reg] w fun e w' => e = .returned (rowV (isaOf op reg)) ∧ Below w.heap.size w w' := by
  obtain ⟨R, hR⟩ : ∃ R, isaOf (op : Int) reg = R := ⟨_, rfl⟩
  rw [hR]
  have HR := Lib.hid (show rowOfL (entryL op reg) = R from (rowL_isa op reg h1 h2).trans hR)
  clear hR
  have hr0 := Row.new w #[.int .i64 0, .int .i64 0, .int .i64 0, .bool false] 47
  have HR0 := Lib.hid hr0
  have HB0 := Lib.hid ((Below.refl w.heap.size w).alloc (Nat.le_refl _) (.cells #[.int .i64 0, .int .i64 0, .int .i64 0, .bool false] 47))
  clear hr0
  go_enter Tryz.func94, Tryz.ntmps94
  go_wp2_with fail
  refine (entry_any4 op reg h1 h2 _).mono ?_
  rintro e w1 ⟨rfl, rfl⟩; dsimp only
  have hok := (entryL_ok op reg).1
  have hle := (entryL_ok op reg).2
  generalize entryL op reg = s at hok hle HR ⊢
  have u0 := B_beq s [45] hok (by intro x hx; revert x; decide)
  rw [← B_45, ByteArray.toList_mk [45]] at u0
  have u1 := B_beq s [] hok (by intro x hx; cases hx)
  rw [B_nil, ByteArray.toList_mk []] at u1
  obtain ⟨b0, v0⟩ : ∃ b, decide (s = [45]) = b := ⟨_, rfl⟩
  obtain ⟨b1, v1⟩ : ∃ b, decide (s = []) = b := ⟨_, rfl⟩
  rw [v0] at u0
  rw [v1] at u1
  have V0 := Lib.hid v0
  have V1 := Lib.hid v1
  clear v0 v1
  cases b0 with
  | true =>
    go_wp2_with fail
    rw [← HR.out, rowOfL_none s (Or.inl (of_decide_eq_true V0.out)), rowV_none]
    refine bodyPost_ret (v := .tuple #[.agg #[.int .i64 0, .int .i64 0, .int .i64 0, .bool false], .bool false]) (by simp [results, Tryz.results94, go_sem]) rfl ⟨rfl, ?_⟩
    (repeat (first | exact Below.refl _ _ | assumption | refine Below.setCell ?_ (by simp) _ | refine Below.alloc ?_ (by simp <;> omega) _ | refine Below.drew ?_ | refine Below.drewN ?_ | refine Below.setRow ?_ (by simp <;> omega) _))
  | false =>
  cases b1 with
  | true =>
    go_wp2_with fail
    rw [← HR.out, rowOfL_none s (Or.inr (of_decide_eq_true V1.out)), rowV_none]
    refine bodyPost_ret (v := .tuple #[.agg #[.int .i64 0, .int .i64 0, .int .i64 0, .bool false], .bool false]) (by simp [results, Tryz.results94, go_sem]) rfl ⟨rfl, ?_⟩
    (repeat (first | exact Below.refl _ _ | assumption | refine Below.setCell ?_ (by simp) _ | refine Below.alloc ?_ (by simp <;> omega) _ | refine Below.drew ?_ | refine Below.drewN ?_ | refine Below.setRow ?_ (by simp <;> omega) _))
  | false =>
    have HE := Lib.hid (show R = some ⟨findL N04 (partL 58 s 0), findL K04 (partL 58 s 1), findL K04 (partL 58 s 2), secK (findL K04 (partL 58 s 1)) || secK (findL K04 (partL 58 s 2))⟩ by
      rw [← HR.out]; unfold rowOfL; rw [if_neg (by rintro (e | e); exact of_decide_eq_false V0.out e; exact of_decide_eq_false V1.out e)])
    have hle2 : s.length ≤ 100000 := by omega
    have p0 := partL_ok hok 58 0
    have p1 := partL_ok hok 58 1
    have p2 := partL_ok hok 58 2
    go_wp2_with fail
    refine (part_int s hok hle2 58 (by decide) 0 (by decide) _ _ (by rfl) (by rfl) _).mono ?_
    rintro e w1 ⟨rfl, rfl⟩; dsimp only
    go_wp2_with fail
    refine (findName_any4 _ p0 _).mono ?_
    rintro e w1 ⟨rfl, rfl⟩; dsimp only
    go_wp2_with fail
    refine (part_int s hok hle2 58 (by decide) 1 (by decide) _ _ (by rfl) (by rfl) _).mono ?_
    rintro e w1 ⟨rfl, rfl⟩; dsimp only
    go_wp2_with fail
    refine calls_text (t := B K04) (by kernel_rfl) ?_
    refine (find_any4 K04 K04_ok (by rw [K04_len]; omega) _ p1 _).mono ?_
    rintro e w1 ⟨rfl, rfl⟩; dsimp only
    go_wp2_with fail
    refine (part_int s hok hle2 58 (by decide) 2 (by decide) _ _ (by rfl) (by rfl) _).mono ?_
    rintro e w1 ⟨rfl, rfl⟩; dsimp only
    go_wp2_with fail
    refine calls_text (t := B K04) (by kernel_rfl) ?_
    refine (find_any4 K04 K04_ok (by rw [K04_len]; omega) _ p2 _).mono ?_
    rintro e w1 ⟨rfl, rfl⟩; dsimp only
    generalize findL N04 (partL 58 s 0) = x0 at HE ⊢
    generalize findL K04 (partL 58 s 1) = x1 at HE ⊢
    generalize findL K04 (partL 58 s 2) = x2 at HE ⊢
    clear hok hle hle2 p0 p1 p2
    cases hs1 : secK x1 with
    | true =>
      rw [hs1] at HE
      have HS := Lib.hid hs1
      clear hs1
      go_wp2_with fail
      refine (second_any4 x1 _).mono ?_
      rw [HS.out]
      rintro e w1 ⟨rfl, rfl⟩; dsimp only
      go_wp2_with fail
      rw [HE.out]
      refine bodyPost_ret (v := rowV (some ⟨x0, x1, x2, true⟩)) (by simp [results, Tryz.results94, go_sem, *]) rfl ⟨rfl, ?_⟩
      (repeat (first | exact Below.refl _ _ | assumption | refine Below.setCell ?_ (by simp) _ | refine Below.alloc ?_ (by simp <;> omega) _ | refine Below.drew ?_ | refine Below.drewN ?_ | refine Below.setRow ?_ (by simp <;> omega) _))
    | false =>
      rw [hs1] at HE
      have HS := Lib.hid hs1
      clear hs1
      go_wp2_with fail
      refine (second_any4 x1 _).mono ?_
      rw [HS.out]
      rintro e w1 ⟨rfl, rfl⟩; dsimp only
      go_wp2_with fail
      refine (second_any4 x2 _).mono ?_
      generalize secK x2 = y2 at HE ⊢
      rintro e w1 ⟨rfl, rfl⟩; dsimp only
      go_wp2_with fail
      rw [HE.out]
      refine bodyPost_ret (v := rowV (some ⟨x0, x1, x2, false || y2⟩)) (by simp [results, Tryz.results94, go_sem, *]) rfl ⟨rfl, ?_⟩
      (repeat (first | exact Below.refl _ _ | assumption | refine Below.setCell ?_ (by simp) _ | refine Below.alloc ?_ (by simp <;> omega) _ | refine Below.drew ?_ | refine Below.drewN ?_ | refine Below.setRow ?_ (by simp <;> omega) _))

set_option maxRecDepth 100000 in
set_option maxHeartbeats 1600000 in
theorem row_any5 (i : Inst) (w : World) (h0 : 0 ≤ i.op) (h1 : i.op ≤ 255) (r0 : 0 ≤ i.reg) (r1 : i.reg ≤ 7) : Calls Tryz.prog 43 #[i.val] w fun e w' => e = .returned (rowV (instRow i.op i.reg)) ∧ Below w.heap.size w w' := by
  obtain ⟨lock, rep, seg, op, mod, reg, rm, disp, imm, sel⟩ := i
  dsimp only at h0 h1 r0 r1
  have hb0 := ((Below.refl w.heap.size w).alloc (Nat.le_refl _) (.cells #[.bool lock, .int .i64 rep, .int .i64 seg, .int .u8 op, .int .i64 mod, .int .i64 reg, .int .i64 rm, .int .u16 disp, .int .u16 imm, .int .u16 sel] 30)).alloc (by simp) (.cells #[.int .i64 0, .int .i64 0, .int .i64 0, .bool false] 47)
  have hr0 := Row.new' (w := w.alloc (.cells #[.bool lock, .int .i64 rep, .int .i64 seg, .int .u8 op, .int .i64 mod, .int .i64 reg, .int .i64 rm, .int .u16 disp, .int .u16 imm, .int .u16 sel] 30)) (n := w.heap.size + 1) (cs := #[.int .i64 0, .int .i64 0, .int .i64 0, .bool false]) (t := 47) (by simp)
  have HB0 := Lib.hid hb0
  have HR0 := Lib.hid hr0
  clear hb0 hr0
  cases hp : isPre op with
  | true =>
    have HE := Lib.hid (show instRow op reg = none by rw [instRow, hp]; rfl)
    have HP := Lib.hid hp
    clear hp
    go_enter Tryz.func43, Tryz.ntmps43
    go_wp2_with (go_at_call 93; refine (prefix_any5 _ _).mono ?_; rw [HP.out]; rintro e w' ⟨rfl, rfl⟩)
    rw [HE.out, rowV_none]
    refine bodyPost_ret (v := .tuple #[.agg #[.int .i64 0, .int .i64 0, .int .i64 0, .bool false], .bool false]) (by simp [results, Tryz.results43, go_sem]) rfl ⟨rfl, ?_⟩
    (repeat (first | exact Below.refl _ _ | assumption | refine Below.setCell ?_ (by simp) _ | refine Below.alloc ?_ (by simp <;> omega) _ | refine Below.drew ?_ | refine Below.drewN ?_ | refine Below.setRow ?_ (by simp <;> omega) _))
  | false =>
    obtain ⟨rr, hrr⟩ : ∃ rr, isaOf op reg = rr := ⟨_, rfl⟩
    have HE := Lib.hid (show instRow op reg = rr by rw [instRow, hp, ← hrr]; rfl)
    have key : ∀ w, Calls Tryz.prog 94 #[.int .u8 op, .int .i64 reg] w fun e w' => e = .returned (rowV rr) ∧ Below w.heap.size w w' := by
      intro w
      have := row_any4 op.toNat reg.toNat (by omega) (by omega) w
      rwa [Int.toNat_of_nonneg h0, Int.toNat_of_nonneg r0, hrr] at this
    have HRR := Lib.hid key
    have HP := Lib.hid hp
    clear hp hrr key
    go_enter Tryz.func43, Tryz.ntmps43
    go_wp2_with (go_at_call 93; refine (prefix_any5 _ _).mono ?_; rw [HP.out]; rintro e w' ⟨rfl, rfl⟩)
    refine (HRR.out _).mono ?_
    rintro e w1 ⟨rfl, hb1⟩; dsimp only
    have hr := Below.row hb1 HR0.out HR0.out.lt
    have HB1 := Lib.hid (HB0.out.trans (hb1.mono HB0.out.size))
    have rc := hr.cell
    have rf := hr.frozen
    have rl := hr.lt
    clear hb1 hr
    go_wp2_with fail
    rw [HE.out]
    refine bodyPost_ret (v := rowV rr) (by simp [results, Tryz.results43, go_sem, *]) rfl ⟨rfl, ?_⟩
    exact (((HB1.out.setCell (p := ⟨w.heap.size + 1, _, none⟩) (Nat.le_succ _) _).setCell (p := ⟨w.heap.size + 1, _, none⟩) (Nat.le_succ _) _).setCell (p := ⟨w.heap.size + 1, _, none⟩) (Nat.le_succ _) _).setCell (p := ⟨w.heap.size + 1, _, none⟩) (Nat.le_succ _) _

set_option maxHeartbeats 400000 in
theorem imms_any5 (r : IRow) (w : World) : Calls Tryz.prog 50 #[r.val] w fun e w' => e = .returned (.int .i64 (immsOf r)) ∧ Below w.heap.size w w' := by
  have a0 := immOf_lo r.a
  have a1 := immOf_hi r.a
  have b0 := immOf_lo r.b
  have b1 := immOf_hi r.b
  have hs : IntKind.i64.wrap (immOf r.a + immOf r.b) = immOf r.a + immOf r.b := IntWalk.i64_in _ (by omega)
  go_enter Tryz.func50, Tryz.ntmps50
  go_wp2_with fail
  go_quiet ((go_at_call 46; exact quietS (bytes_any4 _ _)))
  go_wp2_with fail
  go_ret
  exact ⟨rfl, by (repeat (first | exact Below.refl _ _ | assumption | refine Below.setCell ?_ (by simp) _ | refine Below.alloc ?_ (by simp <;> omega) _ | refine Below.drew ?_ | refine Below.drewN ?_ | refine Below.setRow ?_ (by simp <;> omega) _))⟩
set_option maxHeartbeats 800000 in
/-- A word's bytes, in a row of their own. -/
theorem two_any5 (x : Int) (h0 : 0 ≤ x) (h1 : x ≤ 65535) (w : World) : Calls Tryz.prog 49 #[.int .u16 x] w fun e w' => e = .returned (.slice (some ⟨w.heap.size, 0, none⟩) 2 2) ∧ w' = w.alloc (.cells #[.int .u8 (x % 256), .int .u8 (x / 256)] 5) := by
  go_enter Tryz.func49, Tryz.ntmps49
  go_wp2_with fail
  go_ret
  have e1 : IntKind.u16.wrap (x.tdiv 256) % 256 = x / 256 := by
    rw [Int.tdiv_eq_ediv_of_nonneg h0, IntKind.wrap_u16]; omega
  rw [e1]
  exact ⟨rfl, rfl⟩
end Go.Proofs.YtcglkefaopgjeaaGreatDoor

/- Steps of regions that draw their order: bytes are appended; two. -/
namespace Go.Proofs.YtcglkefaopgjeaaGreatDoor
set_option linter.unusedSimpArgs false
set_option linter.unusedVariables false
open Go.RowKit

theorem run_callFunc_own {P : Program} {f : FuncId} {fn : Func} (hf : P.funcs[f]? = some fn) (hname : (fn.name == "runtime.NumGoroutine") = false) (hb : fn.body.isNone = false) (args : Array Value) (w : World) : (callFunc f args).run P w = .ok (.enter f args) w := by
  have h1 : fn.name ≠ "runtime.NumGoroutine" := by simpa using hname
  have h2 : ¬ fn.body = none := by intro e; rw [e] at hb; cases hb
  simp [callFunc, hf, h1, h2, Sem.run]
theorem step_calls {P : Program} {ops : Array Oper} {o : Oper} {a : Act} {w : World} {K : Act → World → Prop} {Q : Exit → Act → World → Prop} {E : Prop}
    (hg : o.guard = none) (f : FuncId) (xs : Array Operand) (ts : Array TypeId) (hop : o.op = Op.call { callee := Callee.value (.func f), args := xs, argTypes := ts })
    (hf : ∀ args w, (callFunc f args).run P w = .ok (.enter f args) w)
    (vs : Array Value) (hx : xs.map a.eval = vs) (hc : Calls P f vs w fun e w' => ∃ u, e = .returned u ∧ K (a.put o.dst u) w') :
    if Region.wanted o (yielded ops a.tmps) = true then Oper.wp P o a w K Q else E := by
  have hw : Region.wanted o (yielded ops a.tmps) = true := by simp [Region.wanted, hg]
  rw [if_pos hw]
  unfold Oper.wp
  have hex : (execOp a.eval o).run P w = .ok (.enter f vs) w := by
    rw [← hf vs w, ← hx]
    have he : a.eval (.func f) = .func (.func f) #[] #[] := rfl
    simp [execOp, hop, resolve, invoke, he, Deferred.ofValue]
  rw [hex, Oper.upon_enter]
  refine hc.mono ?_
  rintro e w' ⟨u, rfl, hk⟩
  exact hk
theorem own_two (args : Array Value) (w : World) : (callFunc 49 args).run Tryz.prog w = .ok (.enter 49 args) w := run_callFunc_own Tryz.func49 (by rfl) (by rfl) args w
theorem own_disps (args : Array Value) (w : World) : (callFunc 44 args).run Tryz.prog w = .ok (.enter 44 args) w := run_callFunc_own Tryz.func44 (by rfl) (by rfl) args w
end Go.Proofs.YtcglkefaopgjeaaGreatDoor
