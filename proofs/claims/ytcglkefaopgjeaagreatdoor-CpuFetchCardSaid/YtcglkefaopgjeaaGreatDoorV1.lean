/- Parts of the proof, in one text: YtcglkefaopgjeaaGreatDoorJA YtcglkefaopgjeaaGreatDoorJB. Each part's own remark says what it proves; conditions: those of each theorem. -/
import Derived.Test.YtcglkefaopgjeaaGreatDoorJ9

/- Package cpu: move, of MOV. -/
namespace Go.Proofs.YtcglkefaopgjeaaGreatDoor
set_option linter.unusedSimpArgs false
set_option linter.unusedVariables false
open Go.RowKit

def Mach.doMov (m : Mach) (i : Inst) (r : IRow) (t : V) : Mach := (m.getM i r.b).putV i r.a (m.getV i r.b t)

set_option maxRecDepth 100000 in
set_option maxHeartbeats 1600000 in
theorem move_mov (w : World) (C : Phys) (lv : Value) (m : Mach) (h : Own w C lv m) (i : Inst) (r : IRow) (t : V) (ht : t.wf) (hn : r.name = 35) (hg : GetOk i r.b) (hp : PutOk i r.a) :
    Calls Tryz.prog 128 #[.pointer (some ⟨C.b, 0, none⟩), i.val, r.val, t.val] w fun e w' => e = .returned (.tuple #[]) ∧ After C lv w (m.doMov i r t) w' := by
  obtain ⟨name, ra, rb, rm⟩ := r
  dsimp only at hn hg hp
  subst hn
  have hs := st3 h i ⟨35, ra, rb, rm⟩ t
  have hv0 := getV_wf h i rb ht
  obtain ⟨v, hv⟩ : ∃ v, m.getV i rb t = v := ⟨_, rfl⟩
  obtain ⟨m1, hm1⟩ : ∃ m1, m.getM i rb = m1 := ⟨_, rfl⟩
  obtain ⟨m2, hm2⟩ : ∃ m2, m1.putV i ra v = m2 := ⟨_, rfl⟩
  have HE := Lib.hid (show m.doMov i ⟨35, ra, rb, rm⟩ t = m2 from by rw [← hm2, ← hm1, ← hv]; rfl)
  rw [hv] at hv0
  have KG := Lib.hid (St3.calls (lv := lv) (w0 := w) (i := i) (r := ⟨35, ra, rb, rm⟩) (t := t) (fun w lv h => hm1 ▸ hv ▸ hg w C lv m h t))
  have KP := Lib.hid (St3.calls (lv := lv) (w0 := w) (i := i) (r := ⟨35, ra, rb, rm⟩) (t := t) (fun w lv h => hm2 ▸ hp w C lv m1 h v hv0))
  clear h hg hp hv hm1 hm2 hv0
  have xi := hs.ci
  have xr := hs.cr
  have xt := hs.ct
  go_enter Tryz.func128, Tryz.ntmps128
  go_wp2_with fail
  generalize ((w.alloc (.cells (instC i) 30)).alloc (.cells (rowC ⟨35, ra, rb, rm⟩) 47)).alloc (.cells (valC t) 24) = W0 at *
  have S0 := Lib.hid hs.drew
  clear hs
  go_region_held3 (fun w' => (∀ j, w'.cell? ⟨w.heap.size, j, none⟩ = (instC i)[j]?) ∧ (∀ j, w'.cell? ⟨w.heap.size + 1, j, none⟩ = (rowC ⟨35, ra, rb, rm⟩)[j]?) ∧ (∀ j, w'.cell? ⟨w.heap.size + 1 + 1, j, none⟩ = (valC t)[j]?)) (go_keep) (first | (go_at_call 66; with_reducible refine (KG.out _ ?_).mono ?_; (focus (refine Hid.out ?_; assumption)); rintro e w1 ⟨rfl, hq⟩; have y1 := hq.ci; have y2 := hq.cr; have y3 := hq.ct; have S1 := Lib.hid hq; clear hq) | (go_at_call 179; with_reducible refine (KP.out _ ?_).mono ?_; (focus (refine Hid.out ?_; assumption)); rintro e w2 ⟨rfl, hq⟩; have y4 := hq.ci; have y5 := hq.cr; have y6 := hq.ct; have S2 := Lib.hid hq; clear hq))
  all_goals
    go_wp2_with fail
    (first | go_end0 | (((try simp only [Exit.inBlock, Exit.then]); refine bodyPost_ret (results_none rfl _ _ _) rfl ?_)))
    rw [HE.out]
    exact ⟨rfl, S2.out.fin⟩
end Go.Proofs.YtcglkefaopgjeaaGreatDoor

/- Package cpu: do. -/
namespace Go.Proofs.YtcglkefaopgjeaaGreatDoor
set_option linter.unusedSimpArgs false
set_option linter.unusedVariables false
open Go.RowKit

set_option maxRecDepth 100000 in
set_option maxHeartbeats 3200000 in
theorem do_stack (w : World) (C : Phys) (lv : Value) (m m' : Mach) (h : Own w C lv m) (i : Inst) (r : IRow) (t : V) (hn : r.name = 9 ∨ r.name = 10 ∨ r.name = 42 ∨ r.name = 43)
    (hc : ∀ (w : World) (lv : Value), Own w C lv m → Calls Tryz.prog 127 #[.pointer (some ⟨C.b, 0, none⟩), i.val, r.val] w fun e w' => e = .returned (.tuple #[]) ∧ After C lv w m' w') :
    Calls Tryz.prog 75 #[.pointer (some ⟨C.b, 0, none⟩), i.val, r.val, t.val] w fun e w' => e = .returned (.tuple #[]) ∧ After C lv w m' w' := by
  obtain ⟨name, ra, rb, rm⟩ := r
  dsimp only at hn
  have hs := st3 h i ⟨name, ra, rb, rm⟩ t
  have KC := Lib.hid (St3.calls (lv := lv) (w0 := w) (i := i) (r := ⟨name, ra, rb, rm⟩) (t := t) hc)
  clear h hc
  have xi := hs.ci
  have xr := hs.cr
  have xt := hs.ct
  rcases hn with rfl | rfl | rfl | rfl
  all_goals
    go_enter Tryz.func75, Tryz.ntmps75
    go_wp2_with fail
    refine (KC.out _ hs).mono ?_
    clear hs xi xr xt
    rintro e w1 ⟨rfl, hq⟩; dsimp only
    have S1 := Lib.hid hq
    clear hq
    go_wp2_with fail
    (first | go_end0 | (((try simp only [Exit.inBlock, Exit.then]); refine bodyPost_ret (results_none rfl _ _ _) rfl ?_)))
    exact ⟨rfl, S1.out.fin⟩

set_option maxRecDepth 100000 in
set_option maxHeartbeats 3200000 in
theorem do_move (w : World) (C : Phys) (lv : Value) (m m' : Mach) (h : Own w C lv m) (i : Inst) (r : IRow) (t : V) (hn : r.name = 35 ∨ r.name = 34 ∨ r.name = 36 ∨ r.name = 58 ∨ r.name = 59 ∨ r.name = 72)
    (hc : ∀ (w : World) (lv : Value), Own w C lv m → Calls Tryz.prog 128 #[.pointer (some ⟨C.b, 0, none⟩), i.val, r.val, t.val] w fun e w' => e = .returned (.tuple #[]) ∧ After C lv w m' w') :
    Calls Tryz.prog 75 #[.pointer (some ⟨C.b, 0, none⟩), i.val, r.val, t.val] w fun e w' => e = .returned (.tuple #[]) ∧ After C lv w m' w' := by
  obtain ⟨name, ra, rb, rm⟩ := r
  dsimp only at hn
  have hs := st3 h i ⟨name, ra, rb, rm⟩ t
  have KC := Lib.hid (St3.calls (lv := lv) (w0 := w) (i := i) (r := ⟨name, ra, rb, rm⟩) (t := t) hc)
  clear h hc
  have xi := hs.ci
  have xr := hs.cr
  have xt := hs.ct
  rcases hn with rfl | rfl | rfl | rfl | rfl | rfl
  all_goals
    go_enter Tryz.func75, Tryz.ntmps75
    go_wp2_with fail
    refine (KC.out _ hs).mono ?_
    clear hs xi xr xt
    rintro e w1 ⟨rfl, hq⟩; dsimp only
    have S1 := Lib.hid hq
    clear hq
    go_wp2_with fail
    (first | go_end0 | (((try simp only [Exit.inBlock, Exit.then]); refine bodyPost_ret (results_none rfl _ _ _) rfl ?_)))
    exact ⟨rfl, S1.out.fin⟩

set_option maxRecDepth 100000 in
set_option maxHeartbeats 3200000 in
theorem do_port (w : World) (C : Phys) (lv : Value) (m m' : Mach) (h : Own w C lv m) (i : Inst) (r : IRow) (t : V) (hn : r.name = 78 ∨ r.name = 79)
    (hc : ∀ (w : World) (lv : Value), Own w C lv m → Calls Tryz.prog 129 #[.pointer (some ⟨C.b, 0, none⟩), i.val, r.val, t.val] w fun e w' => e = .returned (.tuple #[]) ∧ After C lv w m' w') :
    Calls Tryz.prog 75 #[.pointer (some ⟨C.b, 0, none⟩), i.val, r.val, t.val] w fun e w' => e = .returned (.tuple #[]) ∧ After C lv w m' w' := by
  obtain ⟨name, ra, rb, rm⟩ := r
  dsimp only at hn
  have hs := st3 h i ⟨name, ra, rb, rm⟩ t
  have KC := Lib.hid (St3.calls (lv := lv) (w0 := w) (i := i) (r := ⟨name, ra, rb, rm⟩) (t := t) hc)
  clear h hc
  have xi := hs.ci
  have xr := hs.cr
  have xt := hs.ct
  rcases hn with rfl | rfl
  all_goals
    go_enter Tryz.func75, Tryz.ntmps75
    go_wp2_with fail
    refine (KC.out _ hs).mono ?_
    clear hs xi xr xt
    rintro e w1 ⟨rfl, hq⟩; dsimp only
    have S1 := Lib.hid hq
    clear hq
    go_wp2_with fail
    (first | go_end0 | (((try simp only [Exit.inBlock, Exit.then]); refine bodyPost_ret (results_none rfl _ _ _) rfl ?_)))
    exact ⟨rfl, S1.out.fin⟩

set_option maxRecDepth 100000 in
set_option maxHeartbeats 3200000 in
theorem do_flags (w : World) (C : Phys) (lv : Value) (m m' : Mach) (h : Own w C lv m) (i : Inst) (r : IRow) (t : V) (hn : r.name = 90 ∨ r.name = 91 ∨ r.name = 92 ∨ r.name = 93 ∨ r.name = 94 ∨ r.name = 95 ∨ r.name = 83 ∨ r.name = 82 ∨ r.name = 45 ∨ r.name = 44 ∨ r.name = 37 ∨ r.name = 38)
    (hc : ∀ (w : World) (lv : Value), Own w C lv m → Calls Tryz.prog 130 #[.pointer (some ⟨C.b, 0, none⟩), r.val] w fun e w' => e = .returned (.tuple #[]) ∧ After C lv w m' w') :
    Calls Tryz.prog 75 #[.pointer (some ⟨C.b, 0, none⟩), i.val, r.val, t.val] w fun e w' => e = .returned (.tuple #[]) ∧ After C lv w m' w' := by
  obtain ⟨name, ra, rb, rm⟩ := r
  dsimp only at hn
  have hs := st3 h i ⟨name, ra, rb, rm⟩ t
  have KC := Lib.hid (St3.calls (lv := lv) (w0 := w) (i := i) (r := ⟨name, ra, rb, rm⟩) (t := t) hc)
  clear h hc
  have xi := hs.ci
  have xr := hs.cr
  have xt := hs.ct
  rcases hn with rfl | rfl | rfl | rfl | rfl | rfl | rfl | rfl | rfl | rfl | rfl | rfl
  all_goals
    go_enter Tryz.func75, Tryz.ntmps75
    go_wp2_with fail
    refine (KC.out _ hs).mono ?_
    clear hs xi xr xt
    rintro e w1 ⟨rfl, hq⟩; dsimp only
    have S1 := Lib.hid hq
    clear hq
    go_wp2_with fail
    (first | go_end0 | (((try simp only [Exit.inBlock, Exit.then]); refine bodyPost_ret (results_none rfl _ _ _) rfl ?_)))
    exact ⟨rfl, S1.out.fin⟩

set_option maxRecDepth 100000 in
set_option maxHeartbeats 3200000 in
theorem do_numbers (w : World) (C : Phys) (lv : Value) (m m' : Mach) (h : Own w C lv m) (i : Inst) (r : IRow) (t : V) (hn : r.name = 1 ∨ r.name = 2 ∨ r.name = 3 ∨ r.name = 4 ∨ r.name = 5 ∨ r.name = 6 ∨ r.name = 7 ∨ r.name = 8 ∨ r.name = 11 ∨ r.name = 12 ∨ r.name = 13 ∨ r.name = 14 ∨ r.name = 15 ∨ r.name = 16 ∨ r.name = 33 ∨ r.name = 63 ∨ r.name = 64 ∨ r.name = 65 ∨ r.name = 66 ∨ r.name = 67 ∨ r.name = 68 ∨ r.name = 69 ∨ r.name = 70 ∨ r.name = 71 ∨ r.name = 84 ∨ r.name = 85 ∨ r.name = 86 ∨ r.name = 87 ∨ r.name = 88 ∨ r.name = 89)
    (hc : ∀ (w : World) (lv : Value), Own w C lv m → Calls Tryz.prog 131 #[.pointer (some ⟨C.b, 0, none⟩), i.val, r.val, t.val] w fun e w' => e = .returned (.tuple #[]) ∧ After C lv w m' w') :
    Calls Tryz.prog 75 #[.pointer (some ⟨C.b, 0, none⟩), i.val, r.val, t.val] w fun e w' => e = .returned (.tuple #[]) ∧ After C lv w m' w' := by
  obtain ⟨name, ra, rb, rm⟩ := r
  dsimp only at hn
  have hs := st3 h i ⟨name, ra, rb, rm⟩ t
  have KC := Lib.hid (St3.calls (lv := lv) (w0 := w) (i := i) (r := ⟨name, ra, rb, rm⟩) (t := t) hc)
  clear h hc
  have xi := hs.ci
  have xr := hs.cr
  have xt := hs.ct
  rcases hn with rfl | rfl | rfl | rfl | rfl | rfl | rfl | rfl | rfl | rfl | rfl | rfl | rfl | rfl | rfl | rfl | rfl | rfl | rfl | rfl | rfl | rfl | rfl | rfl | rfl | rfl | rfl | rfl | rfl | rfl
  all_goals
    go_enter Tryz.func75, Tryz.ntmps75
    go_wp2_with fail
    refine (KC.out _ hs).mono ?_
    clear hs xi xr xt
    rintro e w1 ⟨rfl, hq⟩; dsimp only
    have S1 := Lib.hid hq
    clear hq
    go_wp2_with fail
    (first | go_end0 | (((try simp only [Exit.inBlock, Exit.then]); refine bodyPost_ret (results_none rfl _ _ _) rfl ?_)))
    exact ⟨rfl, S1.out.fin⟩

set_option maxRecDepth 100000 in
set_option maxHeartbeats 1600000 in
theorem do_idle (w : World) (C : Phys) (lv : Value) (m : Mach) (h : Own w C lv m) (i : Inst) (r : IRow) (t : V) (hn : r.name = 73 ∨ r.name = 41) :
    Calls Tryz.prog 75 #[.pointer (some ⟨C.b, 0, none⟩), i.val, r.val, t.val] w fun e w' => e = .returned (.tuple #[]) ∧ After C lv w m w' := by
  obtain ⟨name, ra, rb, rm⟩ := r
  dsimp only at hn
  have hs := st3 h i ⟨name, ra, rb, rm⟩ t
  clear h
  have xr := hs.cr
  rcases hn with rfl | rfl
  all_goals
    go_enter Tryz.func75, Tryz.ntmps75
    go_wp2_with fail
    (first | go_end0 | (((try simp only [Exit.inBlock, Exit.then]); refine bodyPost_ret (results_none rfl _ _ _) rfl ?_)))
    exact ⟨rfl, hs.fin⟩
end Go.Proofs.YtcglkefaopgjeaaGreatDoor
