/- Package core: Wide; package world: In, Out; package cpu: port. -/
import Derived.Test.YtcglkefaopgjeaaGreatDoorJ8
namespace Go.Proofs.YtcglkefaopgjeaaGreatDoor
set_option linter.unusedSimpArgs false
set_option linter.unusedVariables false
open Go.RowKit

def wideB (op : Int) : Bool := op == 2 || op == 4 || op == 5 || op == 7 || op == 8 || op == 13 || op == 16 || op == 17 || op == 22 || op == 23
set_option maxHeartbeats 1600000 in
theorem wide_any (op : Int) (w : World) (h0 : 0 ≤ op) (h1 : op ≤ 24) : Calls Tryz.prog 23 #[.int .i64 op] w fun e w' => e = .returned (.bool (wideB op)) ∧ w = w' := by
  have hc : op = 0 ∨ op = 1 ∨ op = 2 ∨ op = 3 ∨ op = 4 ∨ op = 5 ∨ op = 6 ∨ op = 7 ∨ op = 8 ∨ op = 9 ∨ op = 10 ∨ op = 11 ∨ op = 12 ∨ op = 13 ∨ op = 14 ∨ op = 15 ∨ op = 16 ∨ op = 17 ∨ op = 18 ∨ op = 19 ∨ op = 20 ∨ op = 21 ∨ op = 22 ∨ op = 23 ∨ op = 24 := by omega
  clear h0 h1
  rcases hc with rfl | rfl | rfl | rfl | rfl | rfl | rfl | rfl | rfl | rfl | rfl | rfl | rfl | rfl | rfl | rfl | rfl | rfl | rfl | rfl | rfl | rfl | rfl | rfl | rfl
  all_goals
    go_enter Tryz.func23, Tryz.ntmps23
    go_wp2
    go_ret
    exact ⟨rfl, rfl⟩

set_option maxHeartbeats 800000 in
theorem out_any (w : World) (p : WPhys) (rs : List Int) (n : Nat) (l : List Ev) (h : WorldAt w p rs n l) (port v : Int) :
    Calls Tryz.prog 37 #[.pointer (some ⟨p.wb, 0, none⟩), .int .u16 port, .int .u16 v] w fun r w' => r = .returned (.tuple #[]) ∧ WPost p w rs n (noteL l ⟨2, port, v, 0, 0, 0, 0⟩) w' := by
  have H := Lib.hid h
  clear h
  go_enter Tryz.func37, Tryz.ntmps37
  go_wp2_with (go_at_call 82; refine (note_all _ _ _ _ _ H.out ⟨2, port, v, 0, 0, 0, 0⟩).mono ?_; rintro e w' ⟨rfl, hq⟩)
  go_end0
  exact ⟨rfl, hq⟩
def inV (rs : List Int) (i : Nat) (wide : Bool) : Int := if wide then nextV rs i else nextV rs i % 256
set_option maxHeartbeats 1600000 in
theorem in_any (w : World) (p : WPhys) (rs : List Int) (n : Nat) (l : List Ev) (h : WorldAt w p rs n l) (port : Int) (wide : Bool) (h0 : 0 ≤ nextV rs n) (h1 : nextV rs n ≤ 65535) :
    Calls Tryz.prog 181 #[.pointer (some ⟨p.wb, 0, none⟩), .int .u16 port, .bool wide] w fun r w' => r = .returned (.int .u16 (inV rs n wide)) ∧ WPost p w rs (nextI rs n) (noteL l ⟨1, port, inV rs n wide, 0, 0, 0, 0⟩) w' := by
  have H := Lib.hid h
  clear h
  cases wide with
  | true =>
    rw [show inV rs n true = nextV rs n from rfl]
    go_enter Tryz.func181, Tryz.ntmps181
    go_wp2_with (first | (go_at_call 203; refine (next_any _ _ _ _ _ H.out).mono ?_; rintro e w1 ⟨rfl, hw1, hf1⟩; have H1 := Lib.hid hw1; have F1 := Lib.hid hf1; clear hw1 hf1) | (go_at_call 82; refine (note_all _ _ _ _ _ H1.out ⟨1, port, nextV rs n, 0, 0, 0, 0⟩).mono ?_; rintro e w' ⟨rfl, hq⟩))
    go_ret
    exact ⟨rfl, hq.after F1.out⟩
  | false =>
    rw [show inV rs n false = nextV rs n % 256 from rfl]
    go_enter Tryz.func181, Tryz.ntmps181
    go_wp2_with (first | (go_at_call 203; refine (next_any _ _ _ _ _ H.out).mono ?_; rintro e w1 ⟨rfl, hw1, hf1⟩; have H1 := Lib.hid hw1; have F1 := Lib.hid hf1; clear hw1 hf1) | (go_at_call 85; refine (low_any _ _ h0 h1).mono ?_; rintro e w' ⟨rfl, rfl⟩) | (go_at_call 82; refine (note_all _ _ _ _ _ H1.out ⟨1, port, nextV rs n % 256, 0, 0, 0, 0⟩).mono ?_; rintro e w' ⟨rfl, hq⟩))
    go_ret
    exact ⟨rfl, hq.after F1.out⟩

theorem inV_wf {rs : List Int} {i : Nat} (h : 0 ≤ nextV rs i ∧ nextV rs i ≤ 65535) (b : Bool) : V.wf ⟨inV rs i b, false⟩ := by
  unfold inV V.wf
  dsimp only
  cases b
  · rw [if_neg (by decide)]; omega
  · rw [if_pos rfl]; exact h

def Mach.doIn (m : Mach) (i : Inst) (r : IRow) (t : V) : Mach :=
  let m1 := (m.getM i r.b).plain (m.getV i r.b t)
  if m1.state = 0 then ({ m1 with at_ := nextI m1.rs m1.at_, ev := noteL m1.ev ⟨1, (m.getV i r.b t).v, inV m1.rs m1.at_ (wideB r.a), 0, 0, 0, 0⟩ } : Mach).putV i r.a ⟨inV m1.rs m1.at_ (wideB r.a), false⟩ else m1
def Mach.doOut (m : Mach) (i : Inst) (r : IRow) (t : V) : Mach :=
  let m1 := (m.getM i r.a).plain (m.getV i r.a t)
  let m2 := (m1.getM i r.b).plain (m1.getV i r.b t)
  if m2.state = 0 then { m2 with ev := noteL m2.ev ⟨2, (m.getV i r.a t).v, (m1.getV i r.b t).v, 0, 0, 0, 0⟩ } else m2

/-- The boxes that port, move, do begin with. -/
structure DoIn3 (C : Phys) (lv : Value) (w : World) (m : Mach) (i : Inst) (r : IRow) (t : V) (W0 : World) : Prop where
  o : Own W0 C lv m
  a : Acc C lv w lv W0
  i : Box C lv W0 w.heap.size (instC i) 30
  r : Box C lv W0 (w.heap.size + 1) (rowC r) 47
  t : Box C lv W0 (w.heap.size + 1 + 1) (valC t) 24
theorem doIn3 {C : Phys} {lv : Value} {w : World} {m : Mach} (h : Own w C lv m) (i : Inst) (r : IRow) (t : V) : DoIn3 C lv w m i r t (((w.alloc (.cells (instC i) 30)).alloc (.cells (rowC r) 47)).alloc (.cells (valC t) 24)) := by
  have o1 := h.alloc (.cells (instC i) 30)
  have o2 := o1.alloc (.cells (rowC r) 47)
  have x2 := Box.new o1 (rowC r) 47
  have x3 := Box.new o2 (valC t) 24
  rw [World.size_alloc] at x2
  rw [World.size_alloc, World.size_alloc] at x3
  exact ⟨o2.alloc _, (((Acc.refl C lv w).alloc _).alloc _).alloc _, ((Box.new h _ _).alloc _).alloc _, x2.alloc _, x3⟩

set_option maxRecDepth 100000 in
set_option maxHeartbeats 1600000 in
theorem port_in (w : World) (C : Phys) (lv : Value) (m : Mach) (h : Own w C lv m) (i : Inst) (r : IRow) (t : V) (ht : t.wf) (hn : r.name = 78) (ha0 : 0 ≤ r.a) (ha1 : r.a ≤ 24) (hg : GetOk i r.b) (hp : PutOk i r.a)
    (hrs : ∀ (m' : Mach), m'.rs = m.rs → ∀ j, 0 ≤ nextV m'.rs j ∧ nextV m'.rs j ≤ 65535) (hgr : (m.getM i r.b).rs = m.rs) :
    Calls Tryz.prog 129 #[.pointer (some ⟨C.b, 0, none⟩), i.val, r.val, t.val] w fun e w' => e = .returned (.tuple #[]) ∧ After C lv w (m.doIn i r t) w' := by
  obtain ⟨name, ra, rb, rm⟩ := r
  dsimp only at hn hg hp ha0 ha1 hgr
  subst hn
  have hs := doIn3 h i ⟨78, ra, rb, rm⟩ t
  have HG := Lib.hid hg
  have HP := Lib.hid hp
  have hrs1 := hrs ((m.getM i rb).plain (m.getV i rb t)) (by rw [plain_rs, hgr])
  have hi1 := fun j b => inV_wf (hrs1 j) b
  clear h hg hp hrs hgr
  have xi := hs.i.row.cell
  have xr := hs.r.row.cell
  have xt := hs.t.row.cell
  have HD := Lib.hid (show m.doIn i ⟨78, ra, rb, rm⟩ t = (let m1 := (m.getM i rb).plain (m.getV i rb t); if m1.state = 0 then ({ m1 with at_ := nextI m1.rs m1.at_, ev := noteL m1.ev ⟨1, (m.getV i rb t).v, inV m1.rs m1.at_ (wideB ra), 0, 0, 0, 0⟩ } : Mach).putV i ra ⟨inV m1.rs m1.at_ (wideB ra), false⟩ else m1) from rfl)
  go_enter Tryz.func129, Tryz.ntmps129
  go_wp2_with fail
  generalize ((w.alloc (.cells (instC i) 30)).alloc (.cells (rowC ⟨78, ra, rb, rm⟩) 47)).alloc (.cells (valC t) 24) = W0 at *
  have HA0 := Lib.hid hs.a
  have HI0 := Lib.hid hs.i
  have HR0 := Lib.hid hs.r
  refine (HG.out _ _ _ _ hs.o t).mono ?_
  clear hs xi xr xt
  generalize m.getV i rb t = v at HD hrs1 hi1
  generalize m.getM i rb = m0 at HD hrs1 hi1
  rintro e w1 ⟨rfl, lv1, h1, f1, k1⟩; dsimp only
  have HO1 := Lib.hid h1
  have HA1 := Lib.hid (HA0.out.trans ⟨f1, k1⟩)
  have HI1 := Lib.hid (HI0.out.step f1 k1)
  have HR1 := Lib.hid (HR0.out.step f1 k1)
  clear h1 f1 k1
  go_wp2_with fail
  refine (plain_any _ _ _ _ HO1.out v).mono ?_
  generalize m0.plain v = m1 at HD hrs1 hi1
  have HRS := Lib.hid hrs1
  have HIV := Lib.hid hi1
  clear hrs1 hi1
  rintro e w2 ⟨rfl, lv2, h2, f2, k2⟩; dsimp only
  have HO2 := Lib.hid h2
  have HA2 := Lib.hid (HA1.out.trans ⟨f2, k2⟩)
  have HI2 := Lib.hid (HI1.out.step f2 k2)
  have HR2 := Lib.hid (HR1.out.step f2 k2)
  clear h2 f2 k2
  go_wp2_with fail
  refine (state_any _ _ _ _ HO2.out).mono ?_
  rintro e w' ⟨rfl, rfl⟩; dsimp only
  by_cases h0 : m1.state = 0
  · have hb : (m1.state == 0) = true := by simp [h0]
    have H0 := Lib.hid h0
    clear h0
    have xi := HI2.out.row.cell
    have c1 : w2.cell? ⟨w.heap.size + 1, 1, none⟩ = some (.int .i64 ra) := HR2.out.row.cell 1
    have c27 : w2.cell? ⟨C.b, 27, none⟩ = some (.pointer (some ⟨C.wb, 0, none⟩)) := (HO2.out.row.cell 27).trans (mcell27 C m1)
    go_upto_region 4 with fail
    go_region_held3 (fun w' => (∀ j, w'.cell? ⟨w.heap.size, j, none⟩ = (instC i)[j]?) ∧ w'.cell? ⟨w.heap.size + 1, 1, none⟩ = some (.int .i64 ra) ∧ w'.cell? ⟨C.b, 27, none⟩ = some (.pointer (some ⟨C.wb, 0, none⟩))) (go_keep) (first | (go_at_call 23; refine (wide_any ra _ ha0 ha1).mono ?_; rintro e w' ⟨rfl, rfl⟩) | (go_at_call 181; refine (in_any _ (C.wp lv2) m1.rs m1.at_ m1.ev HO2.out.drew.wor v.v (wideB ra) (HRS.out _).1 (HRS.out _).2).mono ?_; rintro e w4 ⟨rfl, hp⟩; obtain ⟨lv4, h4, f4, k4⟩ := Own.world (m := m1) HO2.out.drew hp; have HO4 := Lib.hid h4; have HA4 := Lib.hid (HA2.out.drew.trans ⟨f4, k4⟩); have HI4 := Lib.hid (HI2.out.drew.step f4 k4); have HR4 := Lib.hid (HR2.out.drew.step f4 k4); have z1 := HI4.out.row.cell; have z2 : w4.cell? ⟨w.heap.size + 1, 1, none⟩ = some (.int .i64 ra) := HR4.out.row.cell 1; have z3 : w4.cell? ⟨C.b, 27, none⟩ = some (.pointer (some ⟨C.wb, 0, none⟩)) := (HO4.out.row.cell 27).trans rfl; clear hp h4 f4 k4) | (go_at_call 179; refine (HP.out _ _ _ _ HO4.out ⟨inV m1.rs m1.at_ (wideB ra), false⟩ (HIV.out _ _)).mono ?_; rintro e w5 ⟨rfl, lv5, h5, f5, k5⟩; have HO5 := Lib.hid h5; have HA5 := Lib.hid (HA4.out.trans ⟨f5, k5⟩); have y1 := (HI4.out.step f5 k5).row.cell; have y2 : w5.cell? ⟨w.heap.size + 1, 1, none⟩ = some (.int .i64 ra) := (HR4.out.step f5 k5).row.cell 1; have y3 : w5.cell? ⟨C.b, 27, none⟩ = some (.pointer (some ⟨C.wb, 0, none⟩)) := (HO5.out.row.cell 27).trans rfl; clear h5 f5 k5))
    all_goals
    go_wp2_with fail
    (first | go_end0 | (((try simp only [Exit.inBlock, Exit.then]); refine bodyPost_ret (results_none rfl _ _ _) rfl ?_)))
    rw [HD.out]
    rw [if_pos H0.out]
    exact ⟨rfl, After.mk HO5.out HA5.out⟩
  · have hb : (m1.state == 0) = false := by simp [h0]
    have H0 := Lib.hid h0
    clear h0
    go_wp2_with fail
    (first | go_end0 | (((try simp only [Exit.inBlock, Exit.then]); refine bodyPost_ret (results_none rfl _ _ _) rfl ?_)))
    rw [HD.out]
    rw [if_neg H0.out]
    exact ⟨rfl, After.mk HO2.out HA2.out⟩

/-- What is known behind some of a function's work: the machine is m', the three boxes are as they were. -/
def St3 (C : Phys) (lv : Value) (w0 : World) (i : Inst) (r : IRow) (t : V) (m' : Mach) (w : World) : Prop :=
  ∃ lv', Own w C lv' m' ∧ Acc C lv w0 lv' w ∧ Box C lv' w w0.heap.size (instC i) 30 ∧ Box C lv' w (w0.heap.size + 1) (rowC r) 47 ∧ Box C lv' w (w0.heap.size + 1 + 1) (valC t) 24
section
variable {C : Phys} {lv : Value} {w0 w : World} {i : Inst} {r : IRow} {t : V} {m m' : Mach}
theorem St3.drew (h : St3 C lv w0 i r t m w) : St3 C lv w0 i r t m w.drew := by
  obtain ⟨l, a, b, c, d, e⟩ := h
  exact ⟨l, a.drew, b.drew, c.drew, d.drew, e.drew⟩
theorem St3.alloc (h : St3 C lv w0 i r t m w) (o : Obj) : St3 C lv w0 i r t m (w.alloc o) := by
  obtain ⟨l, a, b, c, d, e⟩ := h
  exact ⟨l, a.alloc o, b.alloc o, c.alloc o, d.alloc o, e.alloc o⟩
theorem St3.below {w' : World} (h : St3 C lv w0 i r t m w) (hb : Below w.heap.size w w') : St3 C lv w0 i r t m w' := by
  obtain ⟨l, a, b, c, d, e⟩ := h
  exact ⟨l, a.below hb, b.below hb, c.below hb, d.below hb, e.below hb⟩
theorem St3.after {w' : World} {lv1 : Value} (ho : Own w C lv1 m) (h : Acc C lv w0 lv1 w) (c : Box C lv1 w w0.heap.size (instC i) 30) (d : Box C lv1 w (w0.heap.size + 1) (rowC r) 47) (e : Box C lv1 w (w0.heap.size + 1 + 1) (valC t) 24) (ha : After C lv1 w m' w') : St3 C lv w0 i r t m' w' := by
  obtain ⟨l, h1, f1, k1⟩ := ha
  exact ⟨l, h1, h.trans ⟨f1, k1⟩, c.step f1 k1, d.step f1 k1, e.step f1 k1⟩
theorem St3.calls {f : FuncId} {args : Array Value} {v : Value} (hc : ∀ (w : World) (lv : Value), Own w C lv m → Calls Tryz.prog f args w fun e w' => e = .returned v ∧ After C lv w m' w') (w : World) (h : St3 C lv w0 i r t m w) :
    Calls Tryz.prog f args w fun e w' => e = .returned v ∧ St3 C lv w0 i r t m' w' := by
  obtain ⟨l, a, b, c, d, e⟩ := h
  exact (hc w l a).mono fun _ _ ⟨he, ha⟩ => ⟨he, St3.after a b c d e ha⟩
theorem St3.ci (h : St3 C lv w0 i r t m w) (j : Nat) : w.cell? ⟨w0.heap.size, j, none⟩ = (instC i)[j]? := by
  obtain ⟨l, a, b, c, d, e⟩ := h
  exact c.row.cell j
theorem St3.cr (h : St3 C lv w0 i r t m w) (j : Nat) : w.cell? ⟨w0.heap.size + 1, j, none⟩ = (rowC r)[j]? := by
  obtain ⟨l, a, b, c, d, e⟩ := h
  exact d.row.cell j
theorem St3.ct (h : St3 C lv w0 i r t m w) (j : Nat) : w.cell? ⟨w0.heap.size + 1 + 1, j, none⟩ = (valC t)[j]? := by
  obtain ⟨l, a, b, c, d, e⟩ := h
  exact e.row.cell j
theorem St3.fin (h : St3 C lv w0 i r t m w) : After C lv w0 m w := by
  obtain ⟨l, a, b, c, d, e⟩ := h
  exact After.mk a b
theorem St3.sees (h : St3 C lv w0 i r t m w) : Sees w C m := by
  obtain ⟨l, a, b, c, d, e⟩ := h
  exact a.sees
theorem St3.lt (h : St3 C lv w0 i r t m w) : w0.heap.size < w.heap.size ∧ w0.heap.size + 1 < w.heap.size ∧ w0.heap.size + 1 + 1 < w.heap.size := by
  obtain ⟨l, a, b, c, d, e⟩ := h
  exact ⟨c.row.lt, d.row.lt, e.row.lt⟩
end
theorem st3 {C : Phys} {lv : Value} {w : World} {m : Mach} (h : Own w C lv m) (i : Inst) (r : IRow) (t : V) : St3 C lv w i r t m (((w.alloc (.cells (instC i) 30)).alloc (.cells (rowC r) 47)).alloc (.cells (valC t) 24)) :=
  have d := doIn3 h i r t
  ⟨lv, d.o, d.a, d.i, d.r, d.t⟩

set_option maxRecDepth 100000 in
set_option maxHeartbeats 1600000 in
theorem port_out (w : World) (C : Phys) (lv : Value) (m : Mach) (h : Own w C lv m) (i : Inst) (r : IRow) (t : V) (hn : r.name = 79) (hga : GetOk i r.a) (hgb : GetOk i r.b) :
    Calls Tryz.prog 129 #[.pointer (some ⟨C.b, 0, none⟩), i.val, r.val, t.val] w fun e w' => e = .returned (.tuple #[]) ∧ After C lv w (m.doOut i r t) w' := by
  obtain ⟨name, ra, rb, rm⟩ := r
  dsimp only at hn hga hgb
  subst hn
  have hs := st3 h i ⟨79, ra, rb, rm⟩ t
  have HD := Lib.hid (show m.doOut i ⟨79, ra, rb, rm⟩ t = (let m1 := (m.getM i ra).plain (m.getV i ra t); let m2 := (m1.getM i rb).plain (m1.getV i rb t); if m2.state = 0 then ({ m2 with ev := noteL m2.ev ⟨2, (m.getV i ra t).v, (m1.getV i rb t).v, 0, 0, 0, 0⟩ } : Mach) else m2) from rfl)
  obtain ⟨v, hv⟩ : ∃ v, m.getV i ra t = v := ⟨_, rfl⟩
  obtain ⟨m0, hm0⟩ : ∃ m0, m.getM i ra = m0 := ⟨_, rfl⟩
  obtain ⟨m1, hm1⟩ : ∃ m1, m0.plain v = m1 := ⟨_, rfl⟩
  obtain ⟨u, hu⟩ : ∃ u, m1.getV i rb t = u := ⟨_, rfl⟩
  obtain ⟨m2, hm2⟩ : ∃ m2, m1.getM i rb = m2 := ⟨_, rfl⟩
  obtain ⟨m3, hm3⟩ : ∃ m3, m2.plain u = m3 := ⟨_, rfl⟩
  have HE := Lib.hid (show m.doOut i ⟨79, ra, rb, rm⟩ t = if m3.state = 0 then ({ m3 with ev := noteL m3.ev ⟨2, v.v, u.v, 0, 0, 0, 0⟩ } : Mach) else m3 from by rw [HD.out, ← hm3, ← hm2, ← hu, ← hm1, ← hm0, ← hv])
  have KA := Lib.hid (St3.calls (lv := lv) (w0 := w) (i := i) (r := ⟨79, ra, rb, rm⟩) (t := t) (fun w lv h => hm0 ▸ hv ▸ hga w C lv m h t))
  have KP := Lib.hid (St3.calls (lv := lv) (w0 := w) (i := i) (r := ⟨79, ra, rb, rm⟩) (t := t) (fun w lv h => hm1 ▸ plain_any w C lv m0 h v))
  have KB := Lib.hid (St3.calls (lv := lv) (w0 := w) (i := i) (r := ⟨79, ra, rb, rm⟩) (t := t) (fun w lv h => hm2 ▸ hu ▸ hgb w C lv m1 h t))
  have KQ := Lib.hid (St3.calls (lv := lv) (w0 := w) (i := i) (r := ⟨79, ra, rb, rm⟩) (t := t) (fun w lv h => hm3 ▸ plain_any w C lv m2 h u))
  clear h hga hgb hv hm0 hm1 hu hm2 hm3 HD
  have xi := hs.ci
  have xr := hs.cr
  have xt := hs.ct
  go_enter Tryz.func129, Tryz.ntmps129
  go_wp2_with fail
  generalize ((w.alloc (.cells (instC i) 30)).alloc (.cells (rowC ⟨79, ra, rb, rm⟩) 47)).alloc (.cells (valC t) 24) = W0 at *
  have S0 := Lib.hid hs.drew
  clear hs
  go_region_held3 (fun w' => (∀ j, w'.cell? ⟨w.heap.size, j, none⟩ = (instC i)[j]?) ∧ (∀ j, w'.cell? ⟨w.heap.size + 1, j, none⟩ = (rowC ⟨79, ra, rb, rm⟩)[j]?) ∧ (∀ j, w'.cell? ⟨w.heap.size + 1 + 1, j, none⟩ = (valC t)[j]?)) (go_keep) (first | (go_at_call 66; with_reducible refine (KA.out _ ?_).mono ?_; (focus (refine Hid.out ?_; assumption)); rintro e w1 ⟨rfl, hq⟩; have y1 := hq.ci; have y2 := hq.cr; have y3 := hq.ct; have S1 := Lib.hid hq; clear hq) | (go_at_call 115; with_reducible refine (KP.out _ ?_).mono ?_; (focus (refine Hid.out ?_; assumption)); rintro e w2 ⟨rfl, hq⟩; have y4 := hq.ci; have y5 := hq.cr; have y6 := hq.ct; have S2 := Lib.hid hq; clear hq) | (go_at_call 66; with_reducible refine (KB.out _ ?_).mono ?_; (focus (refine Hid.out ?_; assumption)); rintro e w3 ⟨rfl, hq⟩; have y7 := hq.ci; have y8 := hq.cr; have y9 := hq.ct; have S3 := Lib.hid hq; clear hq) | (go_at_call 115; with_reducible refine (KQ.out _ ?_).mono ?_; (focus (refine Hid.out ?_; assumption)); rintro e w4 ⟨rfl, hq⟩; have z1 := hq.ci; have z2 := hq.cr; have z3 := hq.ct; have S4 := Lib.hid hq; clear hq))
  all_goals
    obtain ⟨lv4, o4, a4, _, _, _⟩ := S4.out
    have HO4 := Lib.hid o4
    have HA4 := Lib.hid a4
    clear o4 a4
    go_wp2_with fail
    refine (state_any _ _ _ _ HO4.out).mono ?_
    rintro e w' ⟨rfl, rfl⟩; dsimp only
    by_cases h0 : m3.state = 0
    · have hb : (m3.state == 0) = true := by simp [h0]
      have H0 := Lib.hid h0
      clear h0
      have c27 : w4.cell? ⟨C.b, 27, none⟩ = some (.pointer (some ⟨C.wb, 0, none⟩)) := (HO4.out.row.cell 27).trans (mcell27 C m3)
      go_wp2_with fail
      refine (out_any _ (C.wp lv4) m3.rs m3.at_ m3.ev HO4.out.wor v.v u.v).mono ?_
      rintro e w5 ⟨rfl, hp⟩; dsimp only
      obtain ⟨lv5, h5, f5, k5⟩ := Own.world (m := m3) HO4.out hp
      have HO5 := Lib.hid h5
      have HA5 := Lib.hid (HA4.out.trans ⟨f5, k5⟩)
      clear hp h5 f5 k5
      go_wp2_with fail
      (first | go_end0 | (((try simp only [Exit.inBlock, Exit.then]); refine bodyPost_ret (results_none rfl _ _ _) rfl ?_)))
      rw [HE.out, if_pos H0.out]
      exact ⟨rfl, After.mk HO5.out HA5.out⟩
    · have hb : (m3.state == 0) = false := by simp [h0]
      have H0 := Lib.hid h0
      clear h0
      go_wp2_with fail
      (first | go_end0 | (((try simp only [Exit.inBlock, Exit.then]); refine bodyPost_ret (results_none rfl _ _ _) rfl ?_)))
      rw [HE.out, if_neg H0.out]
      exact ⟨rfl, After.mk HO4.out HA4.out⟩
end Go.Proofs.YtcglkefaopgjeaaGreatDoor
