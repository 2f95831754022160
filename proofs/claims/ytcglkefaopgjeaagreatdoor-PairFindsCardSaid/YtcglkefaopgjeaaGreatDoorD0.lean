/- What a machine owns, and how it is handed on; core.New, State, Stuck, End. -/
import Derived.Test.YtcglkefaopgjeaaGreatDoorC3
namespace Go.Proofs.YtcglkefaopgjeaaGreatDoor
set_option linter.unusedSimpArgs false
set_option linter.unusedVariables false
open Go.RowKit

@[go_sem] theorem mcell0 (C : Phys) (m : Mach) : (mcells C m)[0]? = some (.int .u16 m.r.g0.v) := rfl
@[go_sem] theorem mcell1 (C : Phys) (m : Mach) : (mcells C m)[1]? = some (.bool m.r.g0.t) := rfl
@[go_sem] theorem mcell2 (C : Phys) (m : Mach) : (mcells C m)[2]? = some (.int .u16 m.r.g1.v) := rfl
@[go_sem] theorem mcell3 (C : Phys) (m : Mach) : (mcells C m)[3]? = some (.bool m.r.g1.t) := rfl
@[go_sem] theorem mcell4 (C : Phys) (m : Mach) : (mcells C m)[4]? = some (.int .u16 m.r.g2.v) := rfl
@[go_sem] theorem mcell5 (C : Phys) (m : Mach) : (mcells C m)[5]? = some (.bool m.r.g2.t) := rfl
@[go_sem] theorem mcell6 (C : Phys) (m : Mach) : (mcells C m)[6]? = some (.int .u16 m.r.g3.v) := rfl
@[go_sem] theorem mcell7 (C : Phys) (m : Mach) : (mcells C m)[7]? = some (.bool m.r.g3.t) := rfl
@[go_sem] theorem mcell8 (C : Phys) (m : Mach) : (mcells C m)[8]? = some (.int .u16 m.r.g4.v) := rfl
@[go_sem] theorem mcell9 (C : Phys) (m : Mach) : (mcells C m)[9]? = some (.bool m.r.g4.t) := rfl
@[go_sem] theorem mcell10 (C : Phys) (m : Mach) : (mcells C m)[10]? = some (.int .u16 m.r.g5.v) := rfl
@[go_sem] theorem mcell11 (C : Phys) (m : Mach) : (mcells C m)[11]? = some (.bool m.r.g5.t) := rfl
@[go_sem] theorem mcell12 (C : Phys) (m : Mach) : (mcells C m)[12]? = some (.int .u16 m.r.g6.v) := rfl
@[go_sem] theorem mcell13 (C : Phys) (m : Mach) : (mcells C m)[13]? = some (.bool m.r.g6.t) := rfl
@[go_sem] theorem mcell14 (C : Phys) (m : Mach) : (mcells C m)[14]? = some (.int .u16 m.r.g7.v) := rfl
@[go_sem] theorem mcell15 (C : Phys) (m : Mach) : (mcells C m)[15]? = some (.bool m.r.g7.t) := rfl
@[go_sem] theorem mcell16 (C : Phys) (m : Mach) : (mcells C m)[16]? = some (.int .u16 m.r.s0.v) := rfl
@[go_sem] theorem mcell17 (C : Phys) (m : Mach) : (mcells C m)[17]? = some (.bool m.r.s0.t) := rfl
@[go_sem] theorem mcell18 (C : Phys) (m : Mach) : (mcells C m)[18]? = some (.int .u16 m.r.s1.v) := rfl
@[go_sem] theorem mcell19 (C : Phys) (m : Mach) : (mcells C m)[19]? = some (.bool m.r.s1.t) := rfl
@[go_sem] theorem mcell20 (C : Phys) (m : Mach) : (mcells C m)[20]? = some (.int .u16 m.r.s2.v) := rfl
@[go_sem] theorem mcell21 (C : Phys) (m : Mach) : (mcells C m)[21]? = some (.bool m.r.s2.t) := rfl
@[go_sem] theorem mcell22 (C : Phys) (m : Mach) : (mcells C m)[22]? = some (.int .u16 m.r.s3.v) := rfl
@[go_sem] theorem mcell23 (C : Phys) (m : Mach) : (mcells C m)[23]? = some (.bool m.r.s3.t) := rfl
@[go_sem] theorem mcell24 (C : Phys) (m : Mach) : (mcells C m)[24]? = some (.int .u16 m.r.ip) := rfl
@[go_sem] theorem mcell25 (C : Phys) (m : Mach) : (mcells C m)[25]? = some (.int .u16 m.r.f) := rfl
@[go_sem] theorem mcell26 (C : Phys) (m : Mach) : (mcells C m)[26]? = some (.pointer (some ⟨C.mb, 0, none⟩)) := rfl
@[go_sem] theorem mcell27 (C : Phys) (m : Mach) : (mcells C m)[27]? = some (.pointer (some ⟨C.wb, 0, none⟩)) := rfl
@[go_sem] theorem mcell28 (C : Phys) (m : Mach) : (mcells C m)[28]? = some (.int .u32 m.base) := rfl
@[go_sem] theorem mcell29 (C : Phys) (m : Mach) : (mcells C m)[29]? = some (.int .u32 m.size) := rfl
@[go_sem] theorem mcell30 (C : Phys) (m : Mach) : (mcells C m)[30]? = some (.int .i64 m.state) := rfl
theorem mset24 (C : Phys) (m : Mach) (x : Int) : (mcells C m).setIfInBounds 24 (.int .u16 x) = mcells C { m with r := { m.r with ip := x } } := rfl
theorem mset25 (C : Phys) (m : Mach) (x : Int) : (mcells C m).setIfInBounds 25 (.int .u16 x) = mcells C { m with r := { m.r with f := x } } := rfl
theorem mset30 (C : Phys) (m : Mach) (x : Int) : (mcells C m).setIfInBounds 30 (.int .i64 x) = mcells C { m with state := x } := rfl
@[go_sem] theorem msize (C : Phys) (m : Mach) : (mcells C m).size = 31 := rfl

theorem Own.lt {w : World} {C : Phys} {lv : Value} {m : Mach} (h : Own w C lv m) : C.base ≤ w.heap.size := h.wor.baseB
theorem Own.lvlt {w : World} {C : Phys} {lv : Value} {m : Mach} (h : Own w C lv m) {k : Nat} (hk : lv.ownBlock = some k) : C.base ≤ k ∧ k < w.heap.size := h.wor.ev.lt k hk
theorem Own.fresh {w : World} {C : Phys} {lv : Value} {m : Mach} (h : Own w C lv m) {k : Nat} (hk : w.heap.size ≤ k) : ¬ C.own lv k := by
  have := h.lt
  have := h.l1
  have := h.l3
  have := h.l4
  have := h.wor.wbB
  rintro (h | h | h | h | hb)
  · omega
  · omega
  · omega
  · have : C.wb < C.base := ‹_›; omega
  · have := h.lvlt hb; omega

/-- What turns no block of a machine's keeps it. -/
theorem Own.kept {w w' : World} {C : Phys} {lv : Value} {m : Mach} (h : Own w C lv m) {own : Nat → Prop} (hf : Fr own w w')
    (hb : ¬ own C.b) (hmb : ¬ own C.mb) (hbb : ¬ own C.bb) (htb : ¬ own C.tb) (hwb : ¬ own C.wb) (hra : ∀ g, C.ra = some g → ¬ own g) (hlv : ∀ g, lv.ownBlock = some g → ¬ own g) : Own w' C lv m :=
  ⟨hf.row h.row hb, ⟨hf.row h.mem.r hmb, hf.row h.mem.b hbb, hf.row h.mem.t htb, h.mem.ne1, h.mem.ne2, h.mem.ne3, h.mem.wf⟩, h.wor.kept hf hwb hra hlv, h.wf, h.n1, h.n2, h.n3, h.n4, h.n5, h.n6, h.n7, h.l1, h.l2, h.l3, h.l4, h.ra⟩
theorem Own.below {w w' : World} {C : Phys} {lv : Value} {m : Mach} (h : Own w C lv m) (hb : Below w.heap.size w w') : Own w' C lv m :=
  h.kept (own := fun _ => False) (Fr.of_below hb) id id id id id (fun _ _ => id) (fun _ _ => id)
theorem Own.alloc {w : World} {C : Phys} {lv : Value} {m : Mach} (h : Own w C lv m) (o : Obj) : Own (w.alloc o) C lv m := h.below ((Below.refl _ _).alloc (Nat.le_refl _) _)
theorem Own.drew {w : World} {C : Phys} {lv : Value} {m : Mach} (h : Own w C lv m) : Own w.drew C lv m := h.below (Below.refl _ _).drew
theorem Own.drewN {w : World} {C : Phys} {lv : Value} {m : Mach} {n : Nat} (h : Own w C lv m) : Own (w.drewN n) C lv m := h.below (Below.drewN (Below.refl _ _))

/-- The machine's own row is another one. -/
theorem Own.setM {w w' : World} {C : Phys} {lv : Value} {m m' : Mach} (h : Own w C lv m) (hf : Fr (fun k => k = C.b) w w') (hr : Row w' C.b (mcells C m') 44)
    (e1 : m'.mem = m.mem) (e2 : m'.tag = m.tag) (e3 : m'.rs = m.rs) (e4 : m'.at_ = m.at_) (e5 : m'.ev = m.ev) (hw : m'.wf) : Own w' C lv m' := by
  have hb := h.l1
  refine ⟨hr, ?_, ?_, hw, h.n1, h.n2, h.n3, h.n4, h.n5, h.n6, h.n7, h.l1, h.l2, h.l3, h.l4, h.ra⟩
  · rw [e1, e2]
    exact ⟨hf.row h.mem.r (Ne.symm h.n1), hf.row h.mem.b (Ne.symm h.n2), hf.row h.mem.t (Ne.symm h.n3), h.mem.ne1, h.mem.ne2, h.mem.ne3, h.mem.wf⟩
  · rw [e3, e4, e5]
    refine h.wor.kept hf (Ne.symm h.n4) (fun g hg => (h.ra g hg).1) (fun g hg => ?_)
    have : C.base ≤ g := (h.lvlt hg).1
    omega
theorem Own.setState {w : World} {C : Phys} {lv : Value} {m : Mach} (h : Own w C lv m) (x : Int) : Own (w.setCell ⟨C.b, 30, none⟩ (.int .i64 x)) C lv { m with state := x } :=
  h.setM ((Fr.refl (fun k => k = C.b) w).setCell (p := ⟨C.b, 30, none⟩) rfl _) (mset30 C m x ▸ h.row.setCell 30 _) rfl rfl rfl rfl rfl ⟨h.wf.r, h.wf.base, h.wf.size⟩
theorem Own.setIP {w : World} {C : Phys} {lv : Value} {m : Mach} (h : Own w C lv m) (x : Int) (h0 : 0 ≤ x) (h1 : x ≤ 65535) : Own (w.setCell ⟨C.b, 24, none⟩ (.int .u16 x)) C lv { m with r := { m.r with ip := x } } :=
  h.setM ((Fr.refl (fun k => k = C.b) w).setCell (p := ⟨C.b, 24, none⟩) rfl _) (mset24 C m x ▸ h.row.setCell 24 _) rfl rfl rfl rfl rfl ⟨{ h.wf.r with ip := ⟨h0, h1⟩ }, h.wf.base, h.wf.size⟩
theorem Own.setFl {w : World} {C : Phys} {lv : Value} {m : Mach} (h : Own w C lv m) (x : Int) (h0 : 0 ≤ x) (h1 : x ≤ 65535) : Own (w.setCell ⟨C.b, 25, none⟩ (.int .u16 x)) C lv { m with r := { m.r with f := x } } :=
  h.setM ((Fr.refl (fun k => k = C.b) w).setCell (p := ⟨C.b, 25, none⟩) rfl _) (mset25 C m x ▸ h.row.setCell 25 _) rfl rfl rfl rfl rfl ⟨{ h.wf.r with f := ⟨h0, h1⟩ }, h.wf.base, h.wf.size⟩

theorem After.of_own {C : Phys} {lv : Value} {w w' : World} {m : Mach} (h : Own w' C lv m) (hf : Fr (C.own lv) w w') : After C lv w m w' := ⟨lv, h, hf, fun _ hk => Or.inl hk⟩
theorem After.pre {C : Phys} {lv lv1 : Value} {w w1 w2 : World} {m : Mach} (hf : Fr (C.own lv) w w1) (hk : ∀ k, lv1.ownBlock = some k → lv.ownBlock = some k ∨ w.heap.size ≤ k) (h : After C lv1 w1 m w2) : After C lv w m w2 := by
  obtain ⟨lv2, h1, h2, h3⟩ := h
  refine ⟨lv2, h1, ⟨h2.os.trans hf.os, h2.tape.trans hf.tape, h2.output.trans hf.output, Nat.le_trans hf.size h2.size, ?_⟩, ?_⟩
  · intro k hk1 ho
    refine (h2.block k (Nat.lt_of_lt_of_le hk1 hf.size) ?_).trans (hf.block k hk1 ho)
    rintro (h | h | h | h | h)
    · exact ho (Or.inl h)
    · exact ho (Or.inr (Or.inl h))
    · exact ho (Or.inr (Or.inr (Or.inl h)))
    · exact ho (Or.inr (Or.inr (Or.inr (Or.inl h))))
    · rcases hk k h with h | h
      · exact ho (Or.inr (Or.inr (Or.inr (Or.inr h))))
      · omega
  · intro k hk2
    rcases h3 k hk2 with h | h
    · exact hk k h
    · exact Or.inr (Nat.le_trans hf.size h)
theorem After.post {C : Phys} {lv : Value} {w w1 w2 : World} {m : Mach} (h : After C lv w m w1) (hb : Below w1.heap.size w1 w2) : After C lv w m w2 := by
  obtain ⟨lv1, h1, h2, h3⟩ := h
  exact ⟨lv1, h1.below hb, h2.trans (Fr.of_below hb), h3⟩

/-- A box of the caller's own beside a machine. -/
structure Box (C : Phys) (lv : Value) (w : World) (k : Nat) (cs : Array Value) (t : TypeId) : Prop where
  row : Row w k cs t
  no : ¬ C.own lv k
theorem Box.new {w : World} {C : Phys} {lv : Value} {m : Mach} (h : Own w C lv m) (cs : Array Value) (t : TypeId) : Box C lv (w.alloc (.cells cs t)) w.heap.size cs t := ⟨Row.new _ _ _, h.fresh (Nat.le_refl _)⟩
theorem Box.alloc {w : World} {C : Phys} {lv : Value} {k : Nat} {cs : Array Value} {t : TypeId} (h : Box C lv w k cs t) (o : Obj) : Box C lv (w.alloc o) k cs t := ⟨h.row.alloc _, h.no⟩
theorem Box.drew {w : World} {C : Phys} {lv : Value} {k : Nat} {cs : Array Value} {t : TypeId} (h : Box C lv w k cs t) : Box C lv w.drew k cs t := ⟨h.row.drew, h.no⟩
theorem Box.below {w w' : World} {C : Phys} {lv : Value} {k : Nat} {cs : Array Value} {t : TypeId} (h : Box C lv w k cs t) (hb : Below w.heap.size w w') : Box C lv w' k cs t := ⟨Below.row hb h.row h.row.lt, h.no⟩
theorem Box.step {w w' : World} {C : Phys} {lv lv' : Value} {k : Nat} {cs : Array Value} {t : TypeId} (h : Box C lv w k cs t) (hf : Fr (C.own lv) w w') (hk : ∀ k, lv'.ownBlock = some k → lv.ownBlock = some k ∨ w.heap.size ≤ k) : Box C lv' w' k cs t := by
  refine ⟨hf.row h.row h.no, ?_⟩
  rintro (e | e | e | e | e)
  · exact h.no (Or.inl e)
  · exact h.no (Or.inr (Or.inl e))
  · exact h.no (Or.inr (Or.inr (Or.inl e)))
  · exact h.no (Or.inr (Or.inr (Or.inr (Or.inl e))))
  · rcases hk k e with e | e
    · exact h.no (Or.inr (Or.inr (Or.inr (Or.inr e))))
    · have := h.row.lt; omega

def Mach.stuck (m : Mach) : Mach := if m.state = 0 then { m with state := 2 } else m

set_option maxHeartbeats 800000 in
theorem stuck_any (w : World) (C : Phys) (lv : Value) (m : Mach) (h : Own w C lv m) :
    Calls Tryz.prog 38 #[.pointer (some ⟨C.b, 0, none⟩)] w fun e w' => e = .returned (.tuple #[]) ∧ After C lv w m.stuck w' := by
  have hc := h.row.cell
  have f30 := h.row.frozen 30
  have H := Lib.hid h
  clear h
  by_cases h0 : m.state = 0
  · have hb : (m.state == 0) = true := by simp [h0]
    have H0 := Lib.hid h0
    clear h0
    go_enter Tryz.func38, Tryz.ntmps38
    go_wp2
    go_end0
    rw [Mach.stuck, if_pos H0.out]
    exact ⟨rfl, After.of_own (H.out.setState 2) ((Fr.refl _ _).setCell (Or.inl rfl) _)⟩
  · have hb : (m.state == 0) = false := by simp [h0]
    have H0 := Lib.hid h0
    clear h0
    go_enter Tryz.func38, Tryz.ntmps38
    go_wp2
    go_end0
    rw [Mach.stuck, if_neg H0.out]
    exact ⟨rfl, After.of_own H.out (Fr.refl _ _)⟩

set_option maxHeartbeats 800000 in
theorem state_any (w : World) (C : Phys) (lv : Value) (m : Mach) (h : Own w C lv m) :
    Calls Tryz.prog 19 #[.pointer (some ⟨C.b, 0, none⟩)] w fun e w' => e = .returned (.int .i64 m.state) ∧ w = w' := by
  have hc := h.row.cell
  clear h
  go_enter Tryz.func19, Tryz.ntmps19
  go_wp2
  go_ret
  exact ⟨rfl, rfl⟩
end Go.Proofs.YtcglkefaopgjeaaGreatDoor
