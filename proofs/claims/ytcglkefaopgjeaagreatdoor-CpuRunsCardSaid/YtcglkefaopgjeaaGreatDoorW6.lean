/- Parts of the proof, in one text: YtcglkefaopgjeaaGreatDoorA0 YtcglkefaopgjeaaGreatDoorD6 YtcglkefaopgjeaaGreatDoorE7 YtcglkefaopgjeaaGreatDoorE8 YtcglkefaopgjeaaGreatDoorEB YtcglkefaopgjeaaGreatDoorJ0 YtcglkefaopgjeaaGreatDoorJ1 YtcglkefaopgjeaaGreatDoorJ2 YtcglkefaopgjeaaGreatDoorJ3 YtcglkefaopgjeaaGreatDoorJ4 YtcglkefaopgjeaaGreatDoorJ5 YtcglkefaopgjeaaGreatDoorJ6 YtcglkefaopgjeaaGreatDoorJ7 YtcglkefaopgjeaaGreatDoorH0 YtcglkefaopgjeaaGreatDoorH1. Each part's own remark says what it proves; conditions: those of each theorem. -/
import Derived.Test.YtcglkefaopgjeaaGreatDoorW3
import Derived.Test.YtcglkefaopgjeaaGreatDoorW5
import Derived.StillTail
import Derived.Deep.Quiet
import Derived.BigQuiet
import Derived.Below
import Derived.WalkKit

/- A drawn region whose operations keep a class of worlds, but for a last chain of operations that wait for all others: one walk serves every order. No program in sight. -/
namespace Go.Proofs.YtcglkefaopgjeaaGreatDoor
set_option linter.unusedSimpArgs false
set_option linter.unusedVariables false
open Go Go.RowKit

section
variable {P : Program} {ops : Array Oper} {md : Region.Mode} {C : World → Prop}

/-- The first operations, whatever order is picked; L is what stands behind them. -/
def wpHd (P : Program) (md : Region.Mode) (ops : Array Oper) (C : World → Prop) (n : Nat) (L : Array Bool → Act → Prop) : Nat → Array Bool → Act → Prop
  | 0, li, a => L li a
  | f + 1, li, a => Region.ready md ops li ≠ [] ∧ ∀ i ∈ Region.ready md ops li, i < n ∧ qOp P ops C i (wpHd P md ops C n L f (li.setIfInBounds i true)) a

theorem any_of_hd {n g : Nat} {L : Array Bool → Act → Prop} {Q : Exit → Act → World → Prop} (hL : ∀ li a w, C w → L li a → wpAny P md ops Q g li a w) (f : Nat) :
    ∀ (li : Array Bool) (a : Act) (w : World), C w → wpHd P md ops C n L f li a → wpAny P md ops Q (f + g) li a w := by
  induction f with
  | zero => intro li a w hC h; rw [Nat.zero_add]; exact hL _ _ _ hC h
  | succ f ih =>
    intro li a w hC h
    rw [Nat.add_right_comm]
    exact ⟨fun h0 => absurd h0 h.1, fun i hi => wpOp_of_qOp hC (fun a' w' hw' hk => ih _ a' w' hw' hk) (h.2 i hi).2⟩

theorem hd_ready {n : Nat} {li : Array Bool} (hs : Region.sinkB md ops n = true) (hc : Region.chainB md ops n = true) (hn : n < ops.size) (inv : HeadInv md ops n li) {i : Nat} (hi : i < n) (hr : i ∈ Region.ready md ops li) :
    Region.ready md ops li ≠ [] ∧ ∀ j ∈ Region.ready md ops li, j < n := by
  refine ⟨fun h => (by rw [h] at hr; cases hr), fun j hj => ?_⟩
  rcases Nat.lt_or_ge j n with h | h
  · exact h
  · exact absurd hj (tail_waits hs hc hn inv _ i rfl hi (mem_ready.1 hr).1 j h)

/-- One that is ready and keeps the class may be taken first. -/
theorem hd_first {n i : Nat} {oi : Oper} {v : Value} {L : Array Bool → Act → Prop} (hi : ops[i]? = some oi) (hsel : ∀ (j : Nat) (o : Oper) cs b, ops[j]? = some o → o.op ≠ .select cs b)
    (hs : Region.sinkB md ops n = true) (hc : Region.chainB md ops n = true) (hn : n < ops.size) (hin : i < n) (hL : ∀ li a, L li a → ∀ j ∈ Region.ready md ops li, n ≤ j) (f : Nat) :
    ∀ (li : Array Bool) (a : Act), HeadInv md ops n li →
      (∀ j oj, ops[j]? = some oj → j ≠ i → li.getD j true = false → (∀ e ∈ oj.after, Region.binds md e = true → e.on ≠ i) → oi.apart ops oj = true) →
      i ∈ Region.ready md ops li → YieldsIn P ops C oi v a → wpHd P md ops C n L f (li.setIfInBounds i true) (a.put oi.dst v) → wpHd P md ops C n L (f + 1) li a := by
  induction f with
  | zero =>
    intro li a inv _ hr hy H
    have hd := hd_ready hs hc hn inv hin hr
    refine ⟨hd.1, fun j hj => ⟨hd.2 j hj, ?_⟩⟩
    by_cases e : j = i
    · subst e; exact hy.qOp hi H
    · have h1 := hL _ _ H j (ready_mono hj e)
      have h2 := hd.2 j hj
      omega
  | succ f ih =>
    intro li a inv hfree hr hy H
    have hd := hd_ready hs hc hn inv hin hr
    have hun := (mem_ready.1 hr).1
    refine ⟨hd.1, fun j hj => ⟨hd.2 j hj, ?_⟩⟩
    by_cases e : j = i
    · subst e; exact hy.qOp hi H
    · obtain ⟨hju, oj, hoj, hall⟩ := mem_ready.1 hj
      have hno : ∀ x ∈ oj.after, Region.binds md x = true → x.on ≠ i := by
        intro x hx hb hq
        have h1 := hall x hx hb
        rw [hq, getD_both hun] at h1
        cases h1
      have hq := qOp_put hoj (hfree j oj hoj e hju hno) (fun cs b => hsel i oi cs b hi) (fun cs b => hsel j oj cs b hoj) hy (H.2 j (ready_mono hj e)).2
      refine qOp_mono (fun a' h3 => ih (li.setIfInBounds j true) a' (inv.set hj (hd.2 j hj)) ?_ (ready_mono hr (Ne.symm e)) h3.1 ?_) hq
      · intro k ok hk hki hu hx
        refine hfree k ok hk hki ?_ hx
        by_cases hjk : j = k
        · subst hjk; exact hju
        · rwa [getD_set_ne true hjk] at hu
      · rw [Array.setIfInBounds_comm _ _ e]
        exact h3.2

theorem hd_lex {n g : Nat} {Lq : Act → Prop} (hsel : Region.noSelect ops = true) (hs : Region.sinkB md ops n = true) (hc : Region.chainB md ops n = true) (hn : n < ops.size) (l : List Oper) :
    ∀ (k : Nat) (li : Array Bool) (a : Act), (∀ j, j < l.length → l[j]? = ops[k + j]?) → k + l.length = n → HeadInv md ops n li →
      Region.lexHead md ops g l.length k li = true → wpQuiet P ops C Lq l a →
      wpHd P md ops C n (fun li' a' => Region.seqB md ops g n li' = true ∧ Lq a') l.length li a := by
  induction l with
  | nil =>
    intro k li a _ hk _ hB h
    obtain rfl : k = n := by simpa using hk
    exact ⟨by simpa [Region.lexHead] using hB, h⟩
  | cons o l ih =>
    intro k li a hl hk inv hB h
    have h0 : ops[k]? = some o := by simpa using (hl 0 (by simp)).symm
    simp only [List.length_cons, Region.lexHead, Bool.and_eq_true] at hB
    have hkn : k < n := by simp only [List.length_cons] at hk; omega
    have hr : k ∈ Region.ready md ops li := by simpa using hB.1.1
    have hst : qOp P ops C k (wpQuiet P ops C Lq l) a := by unfold qOp; simp only [h0]; exact h
    obtain ⟨v, hy, hK⟩ := yieldsIn_of_qOp h0 hst
    refine hd_first h0 (Region.noSelect_spec hsel) hs hc hn hkn (fun li' a' hx => seqB_ready hx.1) l.length li a inv (Region.free_spec h0 hB.1.2) hr hy ?_
    refine ih (k + 1) _ _ (fun j hj => ?_) (by simp only [List.length_cons] at hk; omega) (inv.set hr hkn) hB.2 hK
    have := hl (j + 1) (by simp; omega)
    simpa [Nat.add_assoc, Nat.add_comm 1 j] using this

theorem wp_region_tail {id : Nat} {Q : Exit → Act → World → Prop} {a : Act} {w : World} {l : List Oper} (n : Nat) (hm : P.follows .mixedOrders = true) (hB : Region.lexTailB .any l.toArray n = true) (hC : C { w with drawn := w.drawn + 1 })
    (h : wpQuiet P l.toArray C (fun a' => ∀ w', C w' → wpList P l.toArray Q (l.drop n) a' w') (l.take n) a) : (Code.region id l.toArray true).wp P Q a w := by
  simp only [Region.lexTailB, Bool.and_eq_true, decide_eq_true_eq] at hB
  obtain ⟨⟨⟨⟨hsel, hn⟩, hs⟩, hc⟩, hlex⟩ := hB
  have hn' : n < l.length := by simpa using hn
  have htl : (l.take n).length = n := by simp; omega
  have hdl : (l.drop n).length = l.toArray.size - n := by simp
  have inv0 : HeadInv .any l.toArray n (Array.replicate l.toArray.size false) :=
    ⟨by simp, fun j oj _ hl => (by rw [getD_replicate_false] at hl; cases hl), fun t _ ht => getD_in (by simpa using ht) (getD_replicate_false _ _)⟩
  have H := hd_lex (md := .any) (g := l.toArray.size - n) hsel hs hc hn (l.take n) 0 _ a (fun j hj => by
    rw [htl] at hj
    simp [hj]) (by simpa using htl) inv0 (by rw [htl]; exact hlex) h
  refine wp_region_any hm ?_
  have hA := any_of_hd (Q := Q) (g := l.toArray.size - n) (fun li a' w' hw' hx => by
    have := wpAny_of_seq (md := .any) (Q' := Q) (l.drop n) n li a' w' (fun j => by simp [List.getElem?_drop]) (by rw [hdl]; exact hx.1) (hx.2 w' hw')
    rwa [hdl] at this) _ _ _ _ hC H
  rwa [htl, show n + (l.toArray.size - n) = l.toArray.size by omega] at hA

theorem wp_region_tail_range {S : Type} (ω : S → World) {id : Nat} {Q : Exit → Act → World → Prop} {a : Act} {w : World} {l : List Oper} (n : Nat) (hm : P.follows .mixedOrders = true) (hB : Region.lexTailB .any l.toArray n = true) (hC : ∃ q, { w with drawn := w.drawn + 1 } = ω q)
    (h : wpQuiet P l.toArray (fun w' => ∃ q, w' = ω q) (fun a' => ∀ w', (∃ q, w' = ω q) → wpList P l.toArray Q (l.drop n) a' w') (l.take n) a) : (Code.region id l.toArray true).wp P Q a w :=
  wp_region_tail (C := fun w' => ∃ q, w' = ω q) n hm hB hC h
end

section
open BigFrame
variable {P : Program} {ops : Array Oper}
/-- A drawn region in a class of worlds that is the range of a function. -/
theorem wp_region_range {S : Type} (ω : S → World) {id : Nat} {Q : Exit → Act → World → Prop} {a : Act} {w : World} (hm : P.follows .mixedOrders = true) (hB : Region.lexB .any ops = true) (hC : ∃ n, { w with drawn := w.drawn + 1 } = ω n)
    (h : wpQuiet P ops (fun w' => ∃ n, w' = ω n) (fun a' => ∀ w', (∃ n, w' = ω n) → Q .normal a' w') ops.toList a) : (Code.region id ops true).wp P Q a w :=
  wp_region_quiet (C := fun w' => ∃ n, w' = ω n) hm hB hC h

theorem wp_region_range_lit {S : Type} (ω : S → World) {id : Nat} {Q : Exit → Act → World → Prop} {a : Act} {w : World} {l : List Oper} (hm : P.follows .mixedOrders = true) (hB : Region.lexB .any l.toArray = true) (hC : ∃ n, { w with drawn := w.drawn + 1 } = ω n)
    (h : wpQuiet P l.toArray (fun w' => ∃ n, w' = ω n) (fun a' => ∀ w', (∃ n, w' = ω n) → Q .normal a' w') l a) : (Code.region id l.toArray true).wp P Q a w :=
  wp_region_range ω hm hB hC (by simpa using h)

/-- The worlds that agree with one world below its end, as the range of a function. -/
theorem range_of (wc : World) {G : Prop} (h : ∀ (S : Type) (_ : Nonempty S) (ω : S → World), (∀ q, Below wc.heap.size wc (ω q)) → (∀ w, Below wc.heap.size wc w → ∃ q, w = ω q) → G) : G :=
  h {w // Below wc.heap.size wc w} ⟨⟨wc, Below.refl _ _⟩⟩ (fun q => q.1) (fun q => q.2) (fun w hw => ⟨⟨w, hw⟩, rfl⟩)

/-- A call in such a class. -/
theorem range_call {S : Type} {ω : S → World} {wc : World} (hin : ∀ q, Below wc.heap.size wc (ω q)) (hout : ∀ w, Below wc.heap.size wc w → ∃ q, w = ω q) {f : FuncId} {args : Array Value} {v : Value}
    (h : ∀ w, Calls P f args w fun e w' => e = .returned v ∧ Below w.heap.size w w') (q : S) : Calls P f args (ω q) fun e w'' => e = .returned v ∧ ∃ m, w'' = ω m :=
  (h (ω q)).mono fun _ w' ⟨he, hb⟩ => ⟨he, hout w' ((hin q).trans (hb.mono (hin q).size))⟩

theorem range_cell {S : Type} {ω : S → World} {wc : World} (hin : ∀ q, Below wc.heap.size wc (ω q)) {p : Addr} {v : Value} (h : wc.cell? p = some v) (q : S) : (ω q).cell? p = some v :=
  ((hin q).cell (World.block_lt_of_cell? _ _ h)).trans h
end
end Go.Proofs.YtcglkefaopgjeaaGreatDoor

/- Classes of worlds: what a walk wants to know in each of them. -/
namespace Go.Proofs.YtcglkefaopgjeaaGreatDoor
set_option linter.unusedSimpArgs false
set_option linter.unusedVariables false
open Go.RowKit

section
variable {S : Type} {ω : S → World} {wc : World}
theorem range_calls (hin : ∀ q, Below wc.heap.size wc (ω q)) (hout : ∀ w, Below wc.heap.size wc w → ∃ q, w = ω q) {f : FuncId} {args : Array Value} {v : Value}
    (h : ∀ w, Below wc.heap.size wc w → Calls Tryz.prog f args w fun e w' => e = .returned v ∧ Below w.heap.size w w') (q : S) : Calls Tryz.prog f args (ω q) fun e w'' => e = .returned v ∧ ∃ m, w'' = ω m :=
  (h (ω q) (hin q)).mono fun _ w' ⟨he, hb⟩ => ⟨he, hout w' ((hin q).trans (hb.mono (hin q).size))⟩
theorem range_regs (hin : ∀ q, Below wc.heap.size wc (ω q)) {k : Nat} {r : Regs} (h : regsIn wc k = some r.val) (q : S) : regsIn (ω q) k = some r.val := by
  unfold regsIn at h ⊢
  rw [(hin q).block k (by
    rcases Nat.lt_or_ge k wc.heap.size with hk | hk
    · exact hk
    · rw [Array.getElem?_eq_none hk] at h; simp at h)]
  exact h
end
section
variable {S : Type} {ω : S → World} {wc : World}
theorem range_row (hin : ∀ q, Below wc.heap.size wc (ω q)) {k : Nat} {cs : Array Value} {t : TypeId} (h : Row wc k cs t) (q : S) (j : Nat) : (ω q).cell? ⟨k, j, none⟩ = cs[j]? := (Below.row (hin q) h h.lt).cell j
theorem range_frozen (hin : ∀ q, Below wc.heap.size wc (ω q)) {k : Nat} {cs : Array Value} {t : TypeId} (h : Row wc k cs t) (q : S) (j : Nat) : (ω q).frozen? ⟨k, j, none⟩ = false := (Below.row (hin q) h h.lt).frozen j
end
end Go.Proofs.YtcglkefaopgjeaaGreatDoor

/- flow.far, near by a call, back. -/
namespace Go.Proofs.YtcglkefaopgjeaaGreatDoor
set_option linter.unusedSimpArgs false
set_option linter.unusedVariables false
open Go.RowKit

def Mach.far (m : Mach) (off : Int) (seg : V) : Mach := m.setR ({ m.r with ip := off }.putSeg 1 seg)
theorem Regs.ip_wf {r : Regs} (h : r.wf) {x : Int} (h0 : 0 ≤ x) (h1 : x ≤ 65535) : ({ r with ip := x } : Regs).wf := { h with ip := ⟨h0, h1⟩ }

set_option maxRecDepth 100000 in
set_option maxHeartbeats 1600000 in
theorem far_any (w : World) (C : Phys) (lv : Value) (m : Mach) (h : Own w C lv m) (off : Int) (seg : V) (h0 : 0 ≤ off) (h1 : off ≤ 65535) (hs : seg.wf) :
    Calls Tryz.prog 121 #[.pointer (some ⟨C.b, 0, none⟩), .int .u16 off, seg.val] w fun e w' => e = .returned (.tuple #[]) ∧ After C lv w (m.far off seg) w' := by
  have hwf := h.wf.r
  have hx := Box.new (h.setIP off h0 h1) #[.int .u16 seg.v, .bool seg.t] 24
  rw [World.size_setCell] at hx
  have HX0 := Lib.hid hx
  have HO0 := Lib.hid ((h.setIP off h0 h1).alloc (.cells #[.int .u16 seg.v, .bool seg.t] 24))
  have HA0 := Lib.hid (((Acc.refl C lv w).setB 24 (.int .u16 off)).alloc (.cells #[.int .u16 seg.v, .bool seg.t] 24))
  have HWF := Lib.hid (Regs.putSeg1_wf (Regs.ip_wf hwf h0 h1) hs)
  have hh := Lib.hid h; have sc := hh.out.sees.c; have sf := hh.out.sees.f; have sr := hh.out.sees.r; have ss := hh.out.sees.s; have sl := hh.out.sees.l; clear h hh hx hwf
  go_enter Tryz.func121, Tryz.ntmps121
  go_upto_region 2 with fail
  clear sc sf sr ss sl
  generalize (w.setCell ⟨C.b, 24, none⟩ (.int .u16 off)).alloc (.cells #[.int .u16 seg.v, .bool seg.t] 24) = W0 at *
  have HS := Lib.hid (show m.far off seg = ({ m with r := { m.r with ip := off } } : Mach).setR ({ m.r with ip := off }.putSeg 1 seg) from rfl)
  have hr : ({ m with r := { m.r with ip := off } } : Mach).r = { m.r with ip := off } := rfl
  generalize ({ m.r with ip := off } : Regs) = r1 at *
  generalize ({ m with r := r1 } : Mach) = m1 at HO0 HS hr
  subst hr
  have sc := HO0.out.sees.c; have sf := HO0.out.sees.f; have sr := HO0.out.sees.r; have ss := HO0.out.sees.s; have sl := HO0.out.sees.l
  have xc := HX0.out.row.cell
  clear sc sf
  have x0 : W0.cell? ⟨w.heap.size, 0, none⟩ = some (.int .u16 seg.v) := HX0.out.row.cell 0
  have x1 : W0.cell? ⟨w.heap.size, 1, none⟩ = some (.bool seg.t) := HX0.out.row.cell 1
  refine range_of (W0) ?_; intro S inst ω hin hout
  have r1 := range_regs hin sr
  have r2 := range_cell hin x0
  have r3 := range_cell hin x1
  have k1 := range_call hin hout (putSeg_any m1.r 1 seg)
  clear sr ss sl xc x0 x1
  refine wp_region_tail_range ω 9 (by kernel_rfl) (by kernel_rfl) (hout _ (Below.refl _ _).drew) ?_; simp only [List.take_succ_cons, List.take_zero, List.drop_succ_cons, List.drop_zero]
  repeat (go_big_quiet_step ((with_reducible exact k1 _)))
  refine wpQuiet_nil ?_; intro _ hw'; obtain ⟨nq, rfl⟩ := hw'
  have HO1 := Lib.hid (HO0.out.below (hin nq))
  have HA1 := Lib.hid (HA0.out.below (hin nq))
  clear r1 r2 r3 k1
  generalize ω nq = w1 at HO1 HA1
  have sc := HO1.out.sees.c; have sf := HO1.out.sees.f; have sr := HO1.out.sees.r; have ss := HO1.out.sees.s; have sl := HO1.out.sees.l
  go_wp2_with fail
  go_end0
  rw [HS.out]
  exact ⟨rfl, After.mk (HO1.out.putR _ HWF.out) (HA1.out.putR _)⟩
end Go.Proofs.YtcglkefaopgjeaaGreatDoor

/- flow.near by a call; flow.back. -/
namespace Go.Proofs.YtcglkefaopgjeaaGreatDoor
set_option linter.unusedSimpArgs false
set_option linter.unusedVariables false
open Go.RowKit

theorem popM_r (m : Mach) : m.popM.r = m.r.put 4 ⟨IntKind.u16.wrap (m.r.g4.v + 2), false⟩ := rfl
theorem push_r (m : Mach) (v : V) : (m.push v).r = m.r.put 4 ⟨IntKind.u16.wrap (m.r.g4.v - 2), false⟩ := rfl
theorem far_r (m : Mach) (off : Int) (seg : V) : (m.far off seg).r = { m.r with ip := off }.putSeg 1 seg := rfl

def Mach.callN (m : Mach) (n : Int) : Mach := (m.push ⟨m.r.ip, false⟩).setR { (m.push ⟨m.r.ip, false⟩).r with ip := IntKind.u16.wrap (m.r.ip + n) }

set_option maxRecDepth 100000 in
set_option maxHeartbeats 1600000 in
theorem near_call (w : World) (C : Phys) (lv : Value) (m : Mach) (h : Own w C lv m) (i : Inst) (r : IRow) (n : Int) (ha : (r.a == 2) = false) (hn : (r.name == 39) = true) :
    Calls Tryz.prog 118 #[.pointer (some ⟨C.b, 0, none⟩), i.val, r.val, .int .u16 n] w fun e w' => e = .returned (.tuple #[]) ∧ After C lv w (m.callN n) w' := by
  have HIP := Lib.hid (show V.wf ⟨m.r.ip, false⟩ from h.wf.r.ip)
  have HO0 := Lib.hid h; have HA0 := Lib.hid (Acc.refl C lv w); have sc := HO0.out.sees.c; have sf := HO0.out.sees.f; have sr := HO0.out.sees.r; have ss := HO0.out.sees.s; have sl := HO0.out.sees.l; clear h
  go_enter Tryz.func118, Tryz.ntmps118
  go_wp2_with fail
  refine (push_any _ _ _ _ ((HO0.out.alloc _).alloc _) ⟨m.r.ip, false⟩ HIP.out).mono ?_
  rintro e w1 ⟨rfl, lv1, h1, f1, k1⟩; dsimp only
  have HS := Lib.hid (show m.callN n = (m.push ⟨m.r.ip, false⟩).setR { (m.push ⟨m.r.ip, false⟩).r with ip := IntKind.u16.wrap (m.r.ip + n) } from rfl)
  have HA1 := Lib.hid (((HA0.out.alloc _).alloc _).trans ⟨f1, k1⟩)
  generalize m.push ⟨m.r.ip, false⟩ = m1 at h1 HS
  have HO1 := Lib.hid h1
  clear sc sf sr ss sl; clear h1 f1 k1
  have sc := HO1.out.sees.c; have sf := HO1.out.sees.f; have sr := HO1.out.sees.r; have ss := HO1.out.sees.s; have sl := HO1.out.sees.l
  go_wp2_with fail
  go_end0
  rw [HS.out]
  exact ⟨rfl, After.mk (HO1.out.setIP _ (wrap16_lo _) (wrap16_hi _)) (HA1.out.setB 24 _)⟩

def Mach.addSP (m : Mach) (n : Int) : Mach := (m.plain m.r.g4).setR (m.r.put 4 ⟨IntKind.u16.wrap (m.r.g4.v + n), false⟩)
def Mach.back (m : Mach) (fa : Bool) (n : Int) : Mach :=
  let m1 := m.popM.plain m.popV
  (if fa then m1.popM.far m.popV.v m1.popV else m1.setR { m1.r with ip := m.popV.v }).addSP n

theorem mem_wf {w : World} {C : Phys} {lv : Value} {m : Mach} (h : Own w C lv m) (x y : Nat) : (mwordV m.mem m.tag x y).wf := by
  have h1 := h.mem.wf x
  have h2 := h.mem.wf y
  constructor
  · show 0 ≤ m.mem x + 256 * m.mem y; omega
  · show m.mem x + 256 * m.mem y ≤ 65535; omega
theorem popV_wf {w : World} {C : Phys} {lv : Value} {m : Mach} (h : Own w C lv m) : m.popV.wf := by
  have e : (m.plain m.r.g4).mem = m.mem ∧ (m.plain m.r.g4).tag = m.tag := by
    unfold Mach.plain Mach.stuck
    split
    · split <;> exact ⟨rfl, rfl⟩
    · exact ⟨rfl, rfl⟩
  unfold Mach.popV Mach.wordV
  rw [e.1, e.2]
  exact mem_wf h _ _

set_option maxRecDepth 100000 in
set_option maxHeartbeats 1600000 in
theorem back_any (w : World) (C : Phys) (lv : Value) (m : Mach) (h : Own w C lv m) (r : IRow) (n : Int) (fa : Bool) (hf : (r.name == 57) = fa) :
    Calls Tryz.prog 122 #[.pointer (some ⟨C.b, 0, none⟩), r.val, .int .u16 n] w fun e w' => e = .returned (.tuple #[]) ∧ After C lv w (m.back fa n) w' := by
  have HX0 := Lib.hid (Box.new h #[.int .i64 r.name, .int .i64 r.a, .int .i64 r.b, .bool r.mod] 47)
  have HO0 := Lib.hid h; have HA0 := Lib.hid (Acc.refl C lv w); have sc := HO0.out.sees.c; have sf := HO0.out.sees.f; have sr := HO0.out.sees.r; have ss := HO0.out.sees.s; have sl := HO0.out.sees.l; clear h
  go_enter Tryz.func122, Tryz.ntmps122
  go_wp2_with fail
  refine (pop_any _ _ _ _ (HO0.out.alloc _)).mono ?_
  rintro e w1 ⟨rfl, lv1, h1, f1, k1⟩; dsimp only
  have HV1 := Lib.hid (popV_wf HO0.out)
  have HS := Lib.hid (show m.back fa n = (let m1 := m.popM.plain m.popV; (if fa then m1.popM.far m.popV.v m1.popV else m1.setR { m1.r with ip := m.popV.v }).addSP n) from rfl)
  have HA1 := Lib.hid ((HA0.out.alloc _).trans ⟨f1, k1⟩)
  have HX1 := Lib.hid (HX0.out.step f1 k1)
  generalize m.popM = ma at h1 HS
  generalize m.popV = off at HS HV1
  have HO1 := Lib.hid h1
  clear sc sf sr ss sl; clear h1 f1 k1
  go_wp2_with fail
  refine (plain_any _ _ _ _ HO1.out off).mono ?_
  rintro e w2 ⟨rfl, lv2, h2, f2, k2⟩; dsimp only
  have HA2 := Lib.hid (HA1.out.trans ⟨f2, k2⟩)
  have HX2 := Lib.hid (HX1.out.step f2 k2)
  generalize ma.plain off = m1 at h2 HS
  have HO2 := Lib.hid h2
  clear h2 f2 k2
  have xc := HX2.out.row.cell
  have sc := HO2.out.sees.c; have sf := HO2.out.sees.f; have sr := HO2.out.sees.r; have ss := HO2.out.sees.s; have sl := HO2.out.sees.l
  cases fa with
  | false =>
    have HT := Lib.hid (show m.back false n = (m1.setR { m1.r with ip := off.v }).addSP n from HS.out)
    clear HS
    go_upto_region 5 with fail
    have HO3 := Lib.hid (show Own _ C lv2 (m1.setR { m1.r with ip := off.v }) from HO2.out.setIP off.v HV1.out.1 HV1.out.2)
    have HA3 := Lib.hid (HA2.out.setB 24 (.int .u16 off.v))
    generalize m1.setR { m1.r with ip := off.v } = m3 at HO3 HT
    generalize w2.setCell ⟨C.b, 24, none⟩ (.int .u16 off.v) = w3 at HO3 HA3 ⊢
    clear sc sf sr ss sl; clear xc
    have sc := HO3.out.sees.c; have sf := HO3.out.sees.f; have sr := HO3.out.sees.r; have ss := HO3.out.sees.s; have sl := HO3.out.sees.l
    have HR3 := Lib.hid (plain_r m3 m3.r.g4)
    have HS2 := Lib.hid (show m3.addSP n = (m3.plain m3.r.g4).setR (m3.r.put 4 ⟨IntKind.u16.wrap (m3.r.g4.v + n), false⟩) from rfl)
    have HWF := Lib.hid HO3.out.wf.r
    go_wp2_with fail
    refine (get_any _ _ _).mono ?_
    rw [show m3.r.get 4 = m3.r.g4 from rfl]
    rintro e w4 ⟨rfl, hb⟩; have HO4 := Lib.hid (HO3.out.below hb); have HA4 := Lib.hid (HA3.out.below hb); clear sc sf sr ss sl; clear hb; have sc := HO4.out.sees.c; have sf := HO4.out.sees.f; have sr := HO4.out.sees.r; have ss := HO4.out.sees.s; have sl := HO4.out.sees.l
    dsimp only
    go_wp2_with fail
    refine (plain_any _ _ _ _ HO4.out m3.r.g4).mono ?_
    generalize m3.plain m3.r.g4 = m5 at HR3 HS2
    rintro e w5 ⟨rfl, lv5, h1, f1, k1⟩; have HO5 := Lib.hid h1; have HA5 := Lib.hid (HA4.out.trans ⟨f1, k1⟩); clear sc sf sr ss sl; clear h1 f1 k1; have sc := HO5.out.sees.c; have sf := HO5.out.sees.f; have sr := HO5.out.sees.r; have ss := HO5.out.sees.s; have sl := HO5.out.sees.l
    dsimp only
    rw [HR3.out] at sr
    go_wp2_with (go_at_call 116; refine (put_any _ _ ⟨IntKind.u16.wrap (m3.r.g4.v + n), false⟩ _).mono ?_; rintro e w6 ⟨rfl, hb⟩; have HO6 := Lib.hid (HO5.out.below hb); have HA6 := Lib.hid (HA5.out.below hb); clear sc sf sr ss sl; clear hb; have sc := HO6.out.sees.c; have sf := HO6.out.sees.f; have sr := HO6.out.sees.r; have ss := HO6.out.sees.s; have sl := HO6.out.sees.l)
    go_end0
    rw [HT.out, HS2.out]
    exact ⟨rfl, After.mk (HO6.out.putR _ (Regs.put4_wf HWF.out ⟨wrap16_lo _, wrap16_hi _⟩)) (HA6.out.putR _)⟩
  | true =>
    have HT := Lib.hid (show m.back true n = (m1.popM.far off.v m1.popV).addSP n from HS.out)
    clear HS
    go_wp2_with fail
    refine (pop_any _ _ _ _ HO2.out).mono ?_
    have HV2 := Lib.hid (popV_wf HO2.out)
    generalize m1.popV = sg at HT HV2
    generalize m1.popM = mb at HT
    rintro e wa ⟨rfl, lva, ha, fa, ka⟩; dsimp only
    have HOa := Lib.hid ha
    have HAa := Lib.hid (HA2.out.trans ⟨fa, ka⟩)
    clear sc sf sr ss sl; clear xc ha fa ka
    go_wp2_with fail
    refine (far_any _ _ _ _ HOa.out off.v sg HV1.out.1 HV1.out.2 HV2.out).mono ?_
    generalize mb.far off.v sg = m3 at HT
    rintro e w3 ⟨rfl, lv3, h3, f3, k3⟩; dsimp only
    have HO3 := Lib.hid h3
    have HA3 := Lib.hid (HAa.out.trans ⟨f3, k3⟩)
    clear h3 f3 k3
    have sc := HO3.out.sees.c; have sf := HO3.out.sees.f; have sr := HO3.out.sees.r; have ss := HO3.out.sees.s; have sl := HO3.out.sees.l
    have HR3 := Lib.hid (plain_r m3 m3.r.g4)
    have HS2 := Lib.hid (show m3.addSP n = (m3.plain m3.r.g4).setR (m3.r.put 4 ⟨IntKind.u16.wrap (m3.r.g4.v + n), false⟩) from rfl)
    have HWF := Lib.hid HO3.out.wf.r
    go_wp2_with fail
    refine (get_any _ _ _).mono ?_
    rw [show m3.r.get 4 = m3.r.g4 from rfl]
    rintro e w4 ⟨rfl, hb⟩; have HO4 := Lib.hid (HO3.out.below hb); have HA4 := Lib.hid (HA3.out.below hb); clear sc sf sr ss sl; clear hb; have sc := HO4.out.sees.c; have sf := HO4.out.sees.f; have sr := HO4.out.sees.r; have ss := HO4.out.sees.s; have sl := HO4.out.sees.l
    dsimp only
    go_wp2_with fail
    refine (plain_any _ _ _ _ HO4.out m3.r.g4).mono ?_
    generalize m3.plain m3.r.g4 = m5 at HR3 HS2
    rintro e w5 ⟨rfl, lv5, h1, f1, k1⟩; have HO5 := Lib.hid h1; have HA5 := Lib.hid (HA4.out.trans ⟨f1, k1⟩); clear sc sf sr ss sl; clear h1 f1 k1; have sc := HO5.out.sees.c; have sf := HO5.out.sees.f; have sr := HO5.out.sees.r; have ss := HO5.out.sees.s; have sl := HO5.out.sees.l
    dsimp only
    rw [HR3.out] at sr
    go_wp2_with (go_at_call 116; refine (put_any _ _ ⟨IntKind.u16.wrap (m3.r.g4.v + n), false⟩ _).mono ?_; rintro e w6 ⟨rfl, hb⟩; have HO6 := Lib.hid (HO5.out.below hb); have HA6 := Lib.hid (HA5.out.below hb); clear sc sf sr ss sl; clear hb; have sc := HO6.out.sees.c; have sf := HO6.out.sees.f; have sr := HO6.out.sees.r; have ss := HO6.out.sees.s; have sl := HO6.out.sees.l)
    go_end0
    rw [HT.out, HS2.out]
    exact ⟨rfl, After.mk (HO6.out.putR _ (Regs.put4_wf HWF.out ⟨wrap16_lo _, wrap16_hi _⟩)) (HA6.out.putR _)⟩
end Go.Proofs.YtcglkefaopgjeaaGreatDoor

/- core.End; flow.call. -/
namespace Go.Proofs.YtcglkefaopgjeaaGreatDoor
set_option linter.unusedSimpArgs false
set_option linter.unusedVariables false
open Go.RowKit

theorem wp_own (C : Phys) (lv : Value) : ∀ k, (C.wp lv).own k → C.own lv k := by
  rintro k (e | e)
  · exact Or.inr (Or.inr (Or.inr (Or.inl e)))
  · exact Or.inr (Or.inr (Or.inr (Or.inr e)))
/-- The world has gone on. -/
theorem Own.world {w w' : World} {C : Phys} {lv : Value} {m : Mach} {n : Nat} {l : List Ev} (h : Own w C lv m) (hp : WPost (C.wp lv) w m.rs n l w') : After C lv w { m with at_ := n, ev := l } w' := by
  obtain ⟨lv', hw, hf, hk⟩ := hp
  have l1 := h.l1
  have l2 := h.l2
  have l3 := h.l3
  have l4 := h.l4
  have no : ∀ k, k < C.base → k ≠ C.wb → ¬ (C.wp lv).own k := by
    rintro k hk1 hk2 (e | e)
    · exact hk2 e
    · have := (h.lvlt e).1; omega
  refine ⟨lv', ⟨hf.row h.row (no _ l1 h.n4), ⟨hf.row h.mem.r (no _ l2 h.n5), hf.row h.mem.b (no _ l3 h.n6), hf.row h.mem.t (no _ l4 h.n7), h.mem.ne1, h.mem.ne2, h.mem.ne3, h.mem.wf⟩, hw, ⟨h.wf.r, h.wf.base, h.wf.size⟩, h.n1, h.n2, h.n3, h.n4, h.n5, h.n6, h.n7, h.l1, h.l2, h.l3, h.l4, h.ra⟩, hf.mono (wp_own C lv), hk⟩

def Mach.end (m : Mach) (kind : Int) : Mach :=
  if m.state ≠ 0 then m else if 0 < kind then { m with state := 1, ev := noteL m.ev ⟨kind, 0, 0, 0, 0, 0, 0⟩ } else { m with state := 1 }

set_option maxRecDepth 100000 in
set_option maxHeartbeats 800000 in
theorem end_any (w : World) (C : Phys) (lv : Value) (m : Mach) (h : Own w C lv m) (kind : Int) :
    Calls Tryz.prog 60 #[.pointer (some ⟨C.b, 0, none⟩), .int .i64 kind] w fun e w' => e = .returned (.tuple #[]) ∧ After C lv w (m.end kind) w' := by
  have HO0 := Lib.hid h; have HA0 := Lib.hid (Acc.refl C lv w); have sc := HO0.out.sees.c; have sf := HO0.out.sees.f; have sr := HO0.out.sees.r; have ss := HO0.out.sees.s; have sl := HO0.out.sees.l; clear h
  by_cases h0 : m.state = 0
  · have hb : (m.state != 0) = false := by simp [h0]
    have H0 := Lib.hid h0
    clear h0
    by_cases hk : 0 < kind
    · have hk' : decide (0 < kind) = true := decide_eq_true hk
      have HK := Lib.hid hk
      clear hk
      go_enter Tryz.func60, Tryz.ntmps60
      go_wp2_with fail
      have HO1 := Lib.hid (HO0.out.setState 1)
      have HA1 := Lib.hid (HA0.out.setB 30 (.int .i64 1))
      refine (stop_any _ (C.wp lv) m.rs m.at_ m.ev HO1.out.wor kind).mono ?_
      rintro e w1 ⟨rfl, hp⟩; dsimp only
      obtain ⟨lv1, h1, f1, k1⟩ := Own.world (m := { m with state := 1 }) HO1.out hp
      have HO2 := Lib.hid h1
      have HA2 := Lib.hid (HA1.out.trans ⟨f1, k1⟩)
      clear h1 f1 k1 hp
      go_wp2_with fail
      go_end0
      rw [Mach.end, if_neg (by rw [H0.out]; decide), if_pos HK.out]
      exact ⟨rfl, After.mk HO2.out HA2.out⟩
    · have hk' : decide (0 < kind) = false := decide_eq_false hk
      have HK := Lib.hid hk
      clear hk
      go_enter Tryz.func60, Tryz.ntmps60
      go_wp2_with fail
      go_end0
      rw [Mach.end, if_neg (by rw [H0.out]; decide), if_neg (by have := HK.out; omega)]
      exact ⟨rfl, After.mk (HO0.out.setState 1) (HA0.out.setB 30 (.int .i64 1))⟩
  · have hb : (m.state != 0) = true := by simp [h0]
    have H0 := Lib.hid h0
    clear h0
    go_enter Tryz.func60, Tryz.ntmps60
    go_wp2_with fail
    ((try simp only [Exit.inBlock, Exit.then]); refine bodyPost_ret (results_none rfl _ _ _) rfl ?_)
    rw [Mach.end, if_pos H0.out]
    exact ⟨rfl, After.mk HO0.out HA0.out⟩

/-- The four registers are asked, one behind the other. -/
def Mach.plains (m : Mach) : Nat → Mach
  | 0 => m
  | 1 => m.plain m.r.g0
  | 2 => (m.plain m.r.g0).plain m.r.g3
  | 3 => ((m.plain m.r.g0).plain m.r.g3).plain m.r.g1
  | _ => (((m.plain m.r.g0).plain m.r.g3).plain m.r.g1).plain m.r.g2
theorem plains_r (m : Mach) (k : Nat) : (m.plains k).r = m.r := by
  unfold Mach.plains
  split <;> simp only [plain_r]
theorem stuck_rs (m : Mach) : m.stuck.rs = m.rs := by unfold Mach.stuck; split <;> rfl
theorem plain_rs (m : Mach) (x : V) : (m.plain x).rs = m.rs := by unfold Mach.plain; split; exact stuck_rs m; rfl
theorem plains_rs (m : Mach) (k : Nat) : (m.plains k).rs = m.rs := by
  unfold Mach.plains
  split <;> simp only [plain_rs]
def four (r : Regs) (k : Nat) : Array Value :=
  #[.int .u16 (if 0 < k then r.g0.v else 0), .int .u16 (if 1 < k then r.g3.v else 0), .int .u16 (if 2 < k then r.g1.v else 0), .int .u16 (if 3 < k then r.g2.v else 0)]

def Mach.call (m : Mach) (n : Int) : Mach :=
  if (m.plains 4).state ≠ 0 then m.plains 4 else
  let m5 := { m.plains 4 with at_ := intI (m.plains 4).rs (m.plains 4).at_ n m.r.g0.v, ev := intL (m.plains 4).rs (m.plains 4).at_ (m.plains 4).ev n m.r.g0.v m.r.g3.v m.r.g1.v m.r.g2.v }
  let m6 := m5.setR (m.r.put 0 ⟨intV (m.plains 4).rs (m.plains 4).at_ n m.r.g0.v, false⟩)
  if endsInt n m.r.g0.v then m6.end 0 else m6

def CallIn (C : Phys) (lv : Value) (w : World) (m : Mach) (k : Nat) (wr : World) : Prop := ∃ lv', Own wr C lv' (m.plains k) ∧ Acc C lv w lv' wr ∧ Box C lv' wr w.heap.size (four m.r k) 225

set_option maxRecDepth 100000 in
set_option maxHeartbeats 3200000 in
theorem call_any (w : World) (C : Phys) (lv : Value) (m : Mach) (h : Own w C lv m) (n : Int) (hn0 : 0 ≤ n) (hn1 : n ≤ 255) (hrs : ∀ j, 0 ≤ nextV m.rs j ∧ nextV m.rs j ≤ 65535) :
    Calls Tryz.prog 177 #[.pointer (some ⟨C.b, 0, none⟩), .int .u8 n] w fun e w' => e = .returned (.tuple #[]) ∧ After C lv w (m.call n) w' := by
  have HX0 := Lib.hid (Box.new h (four m.r 0) 225)
  have HWF := Lib.hid h.wf.r
  have HRS := Lib.hid hrs
  clear hrs
  have HO0 := Lib.hid h; have HA0 := Lib.hid (Acc.refl C lv w); have sc := HO0.out.sees.c; have sf := HO0.out.sees.f; have sr := HO0.out.sees.r; have ss := HO0.out.sees.s; have sl := HO0.out.sees.l; clear h
  go_enter Tryz.func177, Tryz.ntmps177
  go_wp2_with fail
  have i0 : ∀ w, (Instr.index 226 (.agg #[.int .i64 0, .int .i64 3, .int .i64 1, .int .i64 2]) (.int .i64 0)).run Tryz.prog w = .ok (.int .i64 0) w := fun _ => by kernel_rfl
  have i1 : ∀ w, (Instr.index 226 (.agg #[.int .i64 0, .int .i64 3, .int .i64 1, .int .i64 2]) (.int .i64 1)).run Tryz.prog w = .ok (.int .i64 3) w := fun _ => by kernel_rfl
  have i2 : ∀ w, (Instr.index 226 (.agg #[.int .i64 0, .int .i64 3, .int .i64 1, .int .i64 2]) (.int .i64 2)).run Tryz.prog w = .ok (.int .i64 1) w := fun _ => by kernel_rfl
  have i3 : ∀ w, (Instr.index 226 (.agg #[.int .i64 0, .int .i64 3, .int .i64 1, .int .i64 2]) (.int .i64 3)).run Tryz.prog w = .ok (.int .i64 2) w := fun _ => by kernel_rfl
  clear sc sf sr ss sl
  go_loopw [10] (fun i wr => ∃ k : Nat, k ≤ 4 ∧ i = .int .i64 k ∧ CallIn C lv w m k wr) (fun i _ => 4 - (intOf i).toNat)
  case atStart => exact ⟨0, by omega, rfl, lv, HO0.out.alloc _, HA0.out.alloc _, HX0.out⟩
  case round =>
    obtain ⟨k, hk, rfl, lv1, h1, a1, b1⟩ := hrel
    have hr := plains_r m k
    have HO1 := Lib.hid h1
    have HA1 := Lib.hid a1
    have HX1 := Lib.hid b1
    have HR := Lib.hid hr
    have sc := HO1.out.sees.c; have sf := HO1.out.sees.f; have sr := HO1.out.sees.r; have ss := HO1.out.sees.s; have sl := HO1.out.sees.l
    clear h1 a1 b1 hr
    have hcases : k = 0 ∨ k = 1 ∨ k = 2 ∨ k = 3 ∨ k = 4 := by omega
    rcases hcases with rfl | rfl | rfl | rfl | rfl
    · go_wp2_with fail
      refine (get_any _ _ _).mono ?_
      rw [HR.out, show m.r.get 0 = m.r.g0 from rfl]
      rintro e wa ⟨rfl, hb⟩; dsimp only
      have HO2 := Lib.hid (HO1.out.below hb)
      have HA2 := Lib.hid (HA1.out.below hb)
      have HX2 := Lib.hid (HX1.out.below hb)
      clear sc sf sr ss sl hb
      go_wp2_with fail
      refine (plain_any _ _ _ _ HO2.out m.r.g0).mono ?_
      rintro e wb ⟨rfl, lvb, h2, f2, k2⟩; dsimp only
      have HO3 := Lib.hid h2
      have HA3 := Lib.hid (HA2.out.trans ⟨f2, k2⟩)
      have HX3 := Lib.hid (HX2.out.step f2 k2)
      clear h2 f2 k2
      have xk : wb.cell? ⟨w.heap.size, 0, none⟩ = some (.int .u16 0) := HX3.out.row.cell 0
      have xF := HX3.out.row.frozen
      have xl := HX3.out.row.lt
      go_wp2_with fail
      have ap := HO0.out.apart (Nat.le_refl _)
      exact ⟨⟨1, by omega, by rfl, lvb, HO3.out.setBox (p := ⟨w.heap.size, 0, none⟩) HX3.out.no ap _, HA3.out.setNew (p := ⟨w.heap.size, 0, none⟩) (Nat.le_refl _) _, ⟨HX3.out.row.setCell 0 _, HX3.out.no⟩⟩, by simp [intOf]⟩
    · go_wp2_with fail
      refine (get_any _ _ _).mono ?_
      rw [HR.out, show m.r.get 3 = m.r.g3 from rfl]
      rintro e wa ⟨rfl, hb⟩; dsimp only
      have HO2 := Lib.hid (HO1.out.below hb)
      have HA2 := Lib.hid (HA1.out.below hb)
      have HX2 := Lib.hid (HX1.out.below hb)
      clear sc sf sr ss sl hb
      go_wp2_with fail
      refine (plain_any _ _ _ _ HO2.out m.r.g3).mono ?_
      rintro e wb ⟨rfl, lvb, h2, f2, k2⟩; dsimp only
      have HO3 := Lib.hid h2
      have HA3 := Lib.hid (HA2.out.trans ⟨f2, k2⟩)
      have HX3 := Lib.hid (HX2.out.step f2 k2)
      clear h2 f2 k2
      have xk : wb.cell? ⟨w.heap.size, 1, none⟩ = some (.int .u16 0) := HX3.out.row.cell 1
      have xF := HX3.out.row.frozen
      have xl := HX3.out.row.lt
      go_wp2_with fail
      have ap := HO0.out.apart (Nat.le_refl _)
      exact ⟨⟨2, by omega, by rfl, lvb, HO3.out.setBox (p := ⟨w.heap.size, 1, none⟩) HX3.out.no ap _, HA3.out.setNew (p := ⟨w.heap.size, 1, none⟩) (Nat.le_refl _) _, ⟨HX3.out.row.setCell 1 _, HX3.out.no⟩⟩, by simp [intOf]⟩
    · go_wp2_with fail
      refine (get_any _ _ _).mono ?_
      rw [HR.out, show m.r.get 1 = m.r.g1 from rfl]
      rintro e wa ⟨rfl, hb⟩; dsimp only
      have HO2 := Lib.hid (HO1.out.below hb)
      have HA2 := Lib.hid (HA1.out.below hb)
      have HX2 := Lib.hid (HX1.out.below hb)
      clear sc sf sr ss sl hb
      go_wp2_with fail
      refine (plain_any _ _ _ _ HO2.out m.r.g1).mono ?_
      rintro e wb ⟨rfl, lvb, h2, f2, k2⟩; dsimp only
      have HO3 := Lib.hid h2
      have HA3 := Lib.hid (HA2.out.trans ⟨f2, k2⟩)
      have HX3 := Lib.hid (HX2.out.step f2 k2)
      clear h2 f2 k2
      have xk : wb.cell? ⟨w.heap.size, 2, none⟩ = some (.int .u16 0) := HX3.out.row.cell 2
      have xF := HX3.out.row.frozen
      have xl := HX3.out.row.lt
      go_wp2_with fail
      have ap := HO0.out.apart (Nat.le_refl _)
      exact ⟨⟨3, by omega, by rfl, lvb, HO3.out.setBox (p := ⟨w.heap.size, 2, none⟩) HX3.out.no ap _, HA3.out.setNew (p := ⟨w.heap.size, 2, none⟩) (Nat.le_refl _) _, ⟨HX3.out.row.setCell 2 _, HX3.out.no⟩⟩, by simp [intOf]⟩
    · go_wp2_with fail
      refine (get_any _ _ _).mono ?_
      rw [HR.out, show m.r.get 2 = m.r.g2 from rfl]
      rintro e wa ⟨rfl, hb⟩; dsimp only
      have HO2 := Lib.hid (HO1.out.below hb)
      have HA2 := Lib.hid (HA1.out.below hb)
      have HX2 := Lib.hid (HX1.out.below hb)
      clear sc sf sr ss sl hb
      go_wp2_with fail
      refine (plain_any _ _ _ _ HO2.out m.r.g2).mono ?_
      rintro e wb ⟨rfl, lvb, h2, f2, k2⟩; dsimp only
      have HO3 := Lib.hid h2
      have HA3 := Lib.hid (HA2.out.trans ⟨f2, k2⟩)
      have HX3 := Lib.hid (HX2.out.step f2 k2)
      clear h2 f2 k2
      have xk : wb.cell? ⟨w.heap.size, 3, none⟩ = some (.int .u16 0) := HX3.out.row.cell 3
      have xF := HX3.out.row.frozen
      have xl := HX3.out.row.lt
      go_wp2_with fail
      have ap := HO0.out.apart (Nat.le_refl _)
      exact ⟨⟨4, by omega, by rfl, lvb, HO3.out.setBox (p := ⟨w.heap.size, 3, none⟩) HX3.out.no ap _, HA3.out.setNew (p := ⟨w.heap.size, 3, none⟩) (Nat.le_refl _) _, ⟨HX3.out.row.setCell 3 _, HX3.out.no⟩⟩, by simp [intOf]⟩
    · by_cases h0 : (m.plains 4).state = 0
      · have t0 : ((m.plains 4).state != 0) = false := by simp [h0]
        have H0 := Lib.hid h0
        clear h0
        go_wp2_with fail
        refine (state_any _ _ _ _ HO1.out).mono ?_
        rintro e w' ⟨rfl, rfl⟩; dsimp only
        go_wp2_with fail
        have hrs := plains_rs m 4
        have HS := Lib.hid (show m.call n = if (m.plains 4).state ≠ 0 then m.plains 4 else if endsInt n m.r.g0.v then (({ m.plains 4 with at_ := intI (m.plains 4).rs (m.plains 4).at_ n m.r.g0.v, ev := intL (m.plains 4).rs (m.plains 4).at_ (m.plains 4).ev n m.r.g0.v m.r.g3.v m.r.g1.v m.r.g2.v } : Mach).setR (m.r.put 0 ⟨intV (m.plains 4).rs (m.plains 4).at_ n m.r.g0.v, false⟩)).end 0 else (({ m.plains 4 with at_ := intI (m.plains 4).rs (m.plains 4).at_ n m.r.g0.v, ev := intL (m.plains 4).rs (m.plains 4).at_ (m.plains 4).ev n m.r.g0.v m.r.g3.v m.r.g1.v m.r.g2.v } : Mach).setR (m.r.put 0 ⟨intV (m.plains 4).rs (m.plains 4).at_ n m.r.g0.v, false⟩)) from rfl)
        have HRS4 := Lib.hid hrs
        clear sc sf sr ss sl; clear t0 hrs i0 i1 i2 i3
        generalize m.plains 4 = m4 at HO1 HR H0 HS HRS4
        have HS := Lib.hid (HS.out.trans (if_neg (by rw [H0.out]; decide)))
        have hva := HWF.out.g0
        have HV := Lib.hid (show 0 ≤ intV m4.rs m4.at_ n m.r.g0.v ∧ intV m4.rs m4.at_ n m.r.g0.v ≤ 65535 from by
          unfold intV
          split
          · exact hva
          · rw [HRS4.out]; exact HRS.out _)
        have c27 : wr.cell? ⟨C.b, 27, none⟩ = some (.pointer (some ⟨C.wb, 0, none⟩)) := (HO1.out.row.cell 27).trans (mcell27 C m4)
        have x0 : wr.cell? ⟨w.heap.size, 0, none⟩ = some (.int .u16 m.r.g0.v) := HX1.out.row.cell 0
        have x1 : wr.cell? ⟨w.heap.size, 1, none⟩ = some (.int .u16 m.r.g3.v) := HX1.out.row.cell 1
        have x2 : wr.cell? ⟨w.heap.size, 2, none⟩ = some (.int .u16 m.r.g1.v) := HX1.out.row.cell 2
        have x3 : wr.cell? ⟨w.heap.size, 3, none⟩ = some (.int .u16 m.r.g2.v) := HX1.out.row.cell 3
        go_region_held3 (fun w' => w'.cell? ⟨C.b, 27, none⟩ = some (.pointer (some ⟨C.wb, 0, none⟩)) ∧ w'.cell? ⟨w.heap.size, 0, none⟩ = some (.int .u16 m.r.g0.v) ∧ w'.cell? ⟨w.heap.size, 1, none⟩ = some (.int .u16 m.r.g3.v) ∧ w'.cell? ⟨w.heap.size, 2, none⟩ = some (.int .u16 m.r.g1.v) ∧ w'.cell? ⟨w.heap.size, 3, none⟩ = some (.int .u16 m.r.g2.v)) (go_keep) ((go_at_call 201; refine (int_any _ (C.wp lv1) m4.rs m4.at_ m4.ev HO1.out.drew.wor n m.r.g0.v m.r.g3.v m.r.g1.v m.r.g2.v hn0 hn1 hva.1 hva.2).mono ?_; rintro e w2 ⟨rfl, hp⟩; obtain ⟨lv2, h2, f2, k2⟩ := Own.world HO1.out.drew hp; have y27 : w2.cell? ⟨C.b, 27, none⟩ = some (.pointer (some ⟨C.wb, 0, none⟩)) := (h2.row.cell 27).trans (mcell27 C _); have z := (HX1.out.drew.step f2 k2).row.cell; have z0 : w2.cell? ⟨w.heap.size, 0, none⟩ = some (.int .u16 m.r.g0.v) := z 0; have z1 : w2.cell? ⟨w.heap.size, 1, none⟩ = some (.int .u16 m.r.g3.v) := z 1; have z2 : w2.cell? ⟨w.heap.size, 2, none⟩ = some (.int .u16 m.r.g1.v) := z 2; have z3 : w2.cell? ⟨w.heap.size, 3, none⟩ = some (.int .u16 m.r.g2.v) := z 3; have HO2 := Lib.hid h2; have HA2 := Lib.hid (HA1.out.drew.trans ⟨f2, k2⟩); clear hp h2 f2 k2 z))
        all_goals
          have HR5 := Lib.hid (show ({ m4 with at_ := intI m4.rs m4.at_ n m.r.g0.v, ev := intL m4.rs m4.at_ m4.ev n m.r.g0.v m.r.g3.v m.r.g1.v m.r.g2.v } : Mach).r = m.r from HR.out)
          generalize ({ m4 with at_ := intI m4.rs m4.at_ n m.r.g0.v, ev := intL m4.rs m4.at_ m4.ev n m.r.g0.v m.r.g3.v m.r.g1.v m.r.g2.v } : Mach) = m5 at HO2 HS HR5
          generalize intV m4.rs m4.at_ n m.r.g0.v = av at HS HV ⊢
          generalize endsInt n m.r.g0.v = ed at HS ⊢
          have HWP := Lib.hid (Regs.put0_wf HWF.out (x := ⟨av, false⟩) HV.out)
          clear y27 z0 z1 z2 z3 c27 x0 x1 x2 x3
          have sc := HO2.out.sees.c; have sf := HO2.out.sees.f; have sr := HO2.out.sees.r; have ss := HO2.out.sees.s; have sl := HO2.out.sees.l
          rw [HR5.out] at sr
          go_wp2_with fail
          refine (put_any _ _ ⟨av, false⟩ _).mono ?_
          rintro e w3 ⟨rfl, hb⟩; have HO3 := Lib.hid (HO2.out.below hb); have HA3 := Lib.hid (HA2.out.below hb); clear sc sf sr ss sl; clear hb; have sc := HO3.out.sees.c; have sf := HO3.out.sees.f; have sr := HO3.out.sees.r; have ss := HO3.out.sees.s; have sl := HO3.out.sees.l
          dsimp only
          cases ed with
          | false =>
            go_wp2_with fail
            go_end0
            rw [HS.out, if_neg (by decide)]
            exact ⟨rfl, After.mk (HO3.out.putR _ HWP.out) (HA3.out.putR _)⟩
          | true =>
            go_wp2_with fail
            refine (end_any _ _ _ _ (HO3.out.putR _ HWP.out) 0).mono ?_
            rintro e w4 ⟨rfl, lv4, h4, f4, k4⟩; dsimp only
            have HO4 := Lib.hid h4
            have HA4 := Lib.hid ((HA3.out.putR (m.r.put 0 ⟨av, false⟩)).trans ⟨f4, k4⟩)
            clear h4 f4 k4
            clear sc sf sr ss sl
            go_wp2_with fail
            go_end0
            rw [HS.out, if_pos trivial]
            exact ⟨rfl, After.mk HO4.out HA4.out⟩
      · have t0 : ((m.plains 4).state != 0) = true := by simp [h0]
        have H0 := Lib.hid h0
        clear h0
        go_wp2_with fail
        refine (state_any _ _ _ _ HO1.out).mono ?_
        rintro e w' ⟨rfl, rfl⟩; dsimp only
        go_wp2_with fail
        ((try simp only [Exit.inBlock, Exit.then]); refine bodyPost_ret (results_none rfl _ _ _) rfl ?_)
        rw [Mach.call, if_pos H0.out]
        exact ⟨rfl, After.mk HO1.out HA1.out⟩
end Go.Proofs.YtcglkefaopgjeaaGreatDoor

/- What core's registers' bytes, operands and places come to: definitions, no program in sight but the seat's words. -/
namespace Go.Proofs.YtcglkefaopgjeaaGreatDoor
set_option linter.unusedSimpArgs false
set_option linter.unusedVariables false
open Go.RowKit

/-- A register's byte; whether it is plain; the registers with another one. -/
def Regs.byteV (r : Regs) (n : Int) : Int := if 0 ≤ n ∧ n < 8 then (if 3 < n then (r.get (n % 4)).v / 256 else (r.get (n % 4)).v % 256) else 0
def Regs.byteC (r : Regs) (n : Int) : Bool := if 0 ≤ n ∧ n < 8 then !(r.get (n % 4)).t else true
def Regs.putByte (r : Regs) (n b : Int) : Regs := if 0 ≤ n ∧ n < 8 then r.put (n % 4) ⟨if 3 < n then (r.get (n % 4)).v % 256 + 256 * b else b + 256 * ((r.get (n % 4)).v / 256), false⟩ else r
def Mach.sure (m : Mach) (b : Bool) : Mach := if b then m else m.stuck
def Mach.regByteM (m : Mach) (n : Int) : Mach := m.sure (m.r.byteC n)
def Mach.setRegByte (m : Mach) (n v : Int) : Mach := if m.r.byteC n then m.setR (m.r.putByte n (v % 256)) else m.stuck

/-- Where an instruction's second byte tells something is. -/
def basesOf (rm : Int) : Int × Int := if rm = 0 then (3, 6) else if rm = 1 then (3, 7) else if rm = 2 then (5, 6) else if rm = 3 then (5, 7) else if rm = 4 then (6, -1) else if rm = 5 then (7, -1) else if rm = 6 then (5, -1) else (3, -1)
def Regs.offOn (r : Regs) (p : Int × Bool) (n : Int) : Int × Bool := if n < 0 then p else (IntKind.u16.wrap (p.1 + (r.get n).v), p.2 && !(r.get n).t)
def Regs.offOf (r : Regs) (i : Inst) : Int × Bool :=
  if i.mod = 3 ∨ i.mod < 0 ∨ i.rm < 0 ∨ 7 < i.rm then (0, true)
  else if i.mod = 0 ∧ i.rm = 6 then (i.disp, true)
  else r.offOn (r.offOn (i.disp, true) (basesOf i.rm).1) (basesOf i.rm).2
def Inst.defSeg (i : Inst) : Int := if 0 < i.seg ∧ i.seg ≤ 4 then i.seg - 1 else if i.mod = 3 then 3 else if i.rm = 2 ∨ i.rm = 3 ∨ (i.rm = 6 ∧ i.mod ≠ 0) then 2 else 3
def Inst.dirSeg (i : Inst) : Int := if 0 < i.seg ∧ i.seg ≤ 4 then i.seg - 1 else 3
def Mach.placeS (m : Mach) (i : Inst) : V := m.r.seg i.defSeg
def Mach.placeO (m : Mach) (i : Inst) : Int := (m.r.offOf i).1
def Mach.placeM (m : Mach) (i : Inst) : Mach := m.sure (m.r.offOf i).2
def Mach.directS (m : Mach) (i : Inst) : V := m.r.seg i.dirSeg

/-- An operand's value, and the machine behind the asking. -/
def Mach.getV (m : Mach) (i : Inst) (op : Int) (tail : V) : V :=
  if op = 1 then (if i.mod = 3 then ⟨m.r.byteV i.rm, false⟩ else ⟨m.mem (lin (m.placeS i).v (m.placeO i)), false⟩)
  else if op = 2 then (if i.mod = 3 then m.r.get i.rm else m.wordV (m.placeS i) (m.placeO i))
  else if op = 3 then ⟨m.r.byteV i.reg, false⟩
  else if op = 4 then m.r.get i.reg
  else if op = 5 then m.r.seg i.reg
  else if op = 6 ∨ op = 7 ∨ op = 8 then tail
  else if op = 12 then ⟨m.mem (lin (m.directS i).v i.imm), false⟩
  else if op = 13 then m.wordV (m.directS i) i.imm
  else if op = 14 then ⟨m.r.byteV 0, false⟩
  else if op = 15 then ⟨m.r.byteV 1, false⟩
  else if op = 16 then m.r.g0
  else if op = 17 then m.r.g2
  else if op = 18 then ⟨1, false⟩
  else if op = 24 then ⟨3, false⟩
  else if op = 21 then ⟨m.r.byteV (i.op % 8), false⟩
  else if op = 22 then m.r.get (i.op % 8)
  else if op = 23 then m.r.seg (i.op / 8 % 4)
  else zeroV
def Mach.getM (m : Mach) (i : Inst) (op : Int) : Mach :=
  if op = 1 then (if i.mod = 3 then m.regByteM i.rm else (m.placeM i).byteS (m.placeS i) (m.placeO i))
  else if op = 2 then (if i.mod = 3 then m else (m.placeM i).wordS (m.placeS i) (m.placeO i))
  else if op = 3 then m.regByteM i.reg
  else if op = 12 then m.byteS (m.directS i) i.imm
  else if op = 13 then m.wordS (m.directS i) i.imm
  else if op = 14 then m.regByteM 0
  else if op = 15 then m.regByteM 1
  else if op = 21 then m.regByteM (i.op % 8)
  else m
/-- A byte of memory is another one. -/
def Mach.setByteOk (m : Mach) (seg : V) (off : Int) : Bool := m.owns seg off 1 && m.tag (lin seg.v off) == 0
def Mach.putMemByte (m : Mach) (seg : V) (off v : Int) : Mach := { m with mem := upd m.mem (lin seg.v off) v, tag := upd m.tag (lin seg.v off) 0 }
def Mach.setMemByte (m : Mach) (seg : V) (off v : Int) : Mach := if m.setByteOk seg off then m.putMemByte seg off v else m.stuck
/-- An operand has another value. -/
def Mach.putV (m : Mach) (i : Inst) (op : Int) (v : V) : Mach :=
  if op = 1 then (if i.mod = 3 then m.setRegByte i.rm v.v else (m.placeM i).setMemByte (m.placeS i) (m.placeO i) (v.v % 256))
  else if op = 2 then (if i.mod = 3 then m.setR (m.r.put i.rm v) else (m.placeM i).setWord (m.placeS i) (m.placeO i) v)
  else if op = 3 then m.setRegByte i.reg v.v
  else if op = 4 then m.setR (m.r.put i.reg v)
  else if op = 5 then m.setR (m.r.putSeg i.reg v)
  else if op = 12 then m.setMemByte (m.directS i) i.imm (v.v % 256)
  else if op = 13 then m.setWord (m.directS i) i.imm v
  else if op = 14 then m.setRegByte 0 v.v
  else if op = 16 then m.setR (m.r.put 0 v)
  else if op = 21 then m.setRegByte (i.op % 8) v.v
  else if op = 22 then m.setR (m.r.put (i.op % 8) v)
  else if op = 23 then m.setR (m.r.putSeg (i.op / 8 % 4) v)
  else m
/-- No operand of memory. -/
def bare (i : Inst) (op : Int) : Prop := ((op = 1 ∨ op = 2) → i.mod = 3) ∧ op ≠ 12 ∧ op ≠ 13

theorem Regs.get_wf {r : Regs} (h : r.wf) (n : Int) : (r.get n).wf := by
  unfold Regs.get
  repeat (split; first | exact h.g0 | exact h.g1 | exact h.g2 | exact h.g3 | exact h.g4 | exact h.g5 | exact h.g6 | exact h.g7)
  exact ⟨by decide, by decide⟩
theorem Regs.seg_wf {r : Regs} (h : r.wf) (n : Int) : (r.seg n).wf := by
  unfold Regs.seg
  repeat (split; first | exact h.s0 | exact h.s1 | exact h.s2 | exact h.s3)
  exact ⟨by decide, by decide⟩
theorem Regs.put_wf {r : Regs} (h : r.wf) (n : Int) {x : V} (hx : x.wf) : (r.put n x).wf := by
  unfold Regs.put
  split; exact { h with g0 := hx }
  split; exact { h with g1 := hx }
  split; exact { h with g2 := hx }
  split; exact { h with g3 := hx }
  split; exact { h with g4 := hx }
  split; exact { h with g5 := hx }
  split; exact { h with g6 := hx }
  split; exact { h with g7 := hx }
  exact h
theorem Regs.putSeg_wf {r : Regs} (h : r.wf) (n : Int) {x : V} (hx : x.wf) : (r.putSeg n x).wf := by
  unfold Regs.putSeg
  split; exact { h with s0 := hx }
  split; exact { h with s1 := hx }
  split; exact { h with s2 := hx }
  split; exact { h with s3 := hx }
  exact h
theorem Regs.byte_wf {r : Regs} (h : r.wf) (n : Int) : 0 ≤ r.byteV n ∧ r.byteV n ≤ 255 := by
  have := Regs.get_wf h (n % 4)
  unfold V.wf at this
  unfold Regs.byteV
  split
  · split <;> omega
  · omega
theorem Regs.putByte_wf {r : Regs} (h : r.wf) (n b : Int) (h0 : 0 ≤ b) (h1 : b ≤ 255) : (r.putByte n b).wf := by
  have := Regs.get_wf h (n % 4)
  unfold V.wf at this
  unfold Regs.putByte
  split
  · refine Regs.put_wf h _ ?_
    unfold V.wf
    dsimp only
    split <;> omega
  · exact h
theorem Mach.wordV_stuck (m : Mach) (seg : V) (off : Int) : m.stuck.wordV seg off = m.wordV seg off := by unfold Mach.stuck; split <;> rfl
theorem Mach.wordV_sure (m : Mach) (b : Bool) (seg : V) (off : Int) : (m.sure b).wordV seg off = m.wordV seg off := by unfold Mach.sure; split; rfl; exact m.wordV_stuck seg off
theorem Mach.mem_stuck (m : Mach) : m.stuck.mem = m.mem := by unfold Mach.stuck; split <;> rfl
theorem Mach.mem_sure (m : Mach) (b : Bool) : (m.sure b).mem = m.mem := by unfold Mach.sure; split; rfl; exact m.mem_stuck
theorem Mach.r_sure (m : Mach) (b : Bool) : (m.sure b).r = m.r := by unfold Mach.sure; split; rfl; exact stuck_r m
theorem getV_wf {w : World} {C : Phys} {lv : Value} {m : Mach} (h : Own w C lv m) (i : Inst) (op : Int) {tail : V} (ht : tail.wf) : (m.getV i op tail).wf := by
  have hb := fun n => Regs.byte_wf h.wf.r n
  have hm := fun x => h.mem.wf x
  have b : ∀ n, V.wf ⟨m.r.byteV n, false⟩ := fun n => ⟨(hb n).1, by show m.r.byteV n ≤ 65535; have := (hb n).2; omega⟩
  have c : ∀ x, V.wf ⟨m.mem x, false⟩ := fun x => ⟨(hm x).1, by show m.mem x ≤ 65535; have := (hm x).2; omega⟩
  have z : ∀ x : Int, 0 ≤ x → x ≤ 65535 → V.wf ⟨x, false⟩ := fun x h0 h1 => ⟨h0, h1⟩
  have key : ∀ (p : Prop) [Decidable p] (x y : V), x.wf → y.wf → (if p then x else y).wf := fun p _ x y hx hy => by split; exact hx; exact hy
  unfold Mach.getV
  repeat' (first | exact b _ | exact Regs.get_wf h.wf.r _ | exact Regs.seg_wf h.wf.r _ | exact ht | exact c _ | exact mem_wf h _ _ | exact h.wf.r.g0 | exact h.wf.r.g2 | exact z 1 (by decide) (by decide) | exact z 3 (by decide) (by decide) | exact z 0 (by decide) (by decide) | refine key _ _ _ ?_ ?_)
end Go.Proofs.YtcglkefaopgjeaaGreatDoor

/- Package regs: bytes of registers, flags. -/
namespace Go.Proofs.YtcglkefaopgjeaaGreatDoor
set_option linter.unusedSimpArgs false
set_option linter.unusedVariables false
open Go.RowKit

set_option maxRecDepth 100000 in
set_option maxHeartbeats 1600000 in
theorem regsByte_any (r : Regs) (hr : r.wf) (n : Int) (w : World) : Calls Tryz.prog 163 #[r.val, .int .i64 n] w fun e w' => e = .returned (.tuple #[.int .u8 (r.byteV n), .bool (r.byteC n)]) ∧ Below w.heap.size w w' := by
  by_cases h : 0 ≤ n ∧ n < 8
  · have hv : r.byteV n = if 3 < n then (r.get (n % 4)).v / 256 else (r.get (n % 4)).v % 256 := by unfold Regs.byteV; rw [if_pos h]
    have hc : r.byteC n = !(r.get (n % 4)).t := by unfold Regs.byteC; rw [if_pos h]
    rw [hv, hc]
    clear hv hc
    obtain ⟨h0, h8⟩ := h
    rcases cases8 h0 h8 with rfl | rfl | rfl | rfl | rfl | rfl | rfl | rfl
    · have x0 := hr.g0.1; have x1 := hr.g0.2
      clear hr
      have e : bits .and .i64 0 3 = 0 := by decide
      go_enter Tryz.func163, Tryz.ntmps163
      go_wp2_with (go_at_call 141; refine (word_yes _ _ (by decide) (by decide)).mono ?_; rintro e w' ⟨rfl, rfl⟩)
      go_quiet ((go_at_call 85; exact quietS (low_any _ _ x0 x1)))
      go_wp2_with fail
      go_ret2
      exact ⟨rfl, by (repeat (first | exact Below.refl _ _ | assumption | refine Below.setCell ?_ (by simp) _ | refine Below.alloc ?_ (by simp <;> omega) _ | refine Below.drew ?_ | refine Below.drewN ?_ | refine Below.setRow ?_ (by simp <;> omega) _))⟩
    · have x0 := hr.g1.1; have x1 := hr.g1.2
      clear hr
      have e : bits .and .i64 1 3 = 1 := by decide
      go_enter Tryz.func163, Tryz.ntmps163
      go_wp2_with (go_at_call 141; refine (word_yes _ _ (by decide) (by decide)).mono ?_; rintro e w' ⟨rfl, rfl⟩)
      go_quiet ((go_at_call 85; exact quietS (low_any _ _ x0 x1)))
      go_wp2_with fail
      go_ret2
      exact ⟨rfl, by (repeat (first | exact Below.refl _ _ | assumption | refine Below.setCell ?_ (by simp) _ | refine Below.alloc ?_ (by simp <;> omega) _ | refine Below.drew ?_ | refine Below.drewN ?_ | refine Below.setRow ?_ (by simp <;> omega) _))⟩
    · have x0 := hr.g2.1; have x1 := hr.g2.2
      clear hr
      have e : bits .and .i64 2 3 = 2 := by decide
      go_enter Tryz.func163, Tryz.ntmps163
      go_wp2_with (go_at_call 141; refine (word_yes _ _ (by decide) (by decide)).mono ?_; rintro e w' ⟨rfl, rfl⟩)
      go_quiet ((go_at_call 85; exact quietS (low_any _ _ x0 x1)))
      go_wp2_with fail
      go_ret2
      exact ⟨rfl, by (repeat (first | exact Below.refl _ _ | assumption | refine Below.setCell ?_ (by simp) _ | refine Below.alloc ?_ (by simp <;> omega) _ | refine Below.drew ?_ | refine Below.drewN ?_ | refine Below.setRow ?_ (by simp <;> omega) _))⟩
    · have x0 := hr.g3.1; have x1 := hr.g3.2
      clear hr
      have e : bits .and .i64 3 3 = 3 := by decide
      go_enter Tryz.func163, Tryz.ntmps163
      go_wp2_with (go_at_call 141; refine (word_yes _ _ (by decide) (by decide)).mono ?_; rintro e w' ⟨rfl, rfl⟩)
      go_quiet ((go_at_call 85; exact quietS (low_any _ _ x0 x1)))
      go_wp2_with fail
      go_ret2
      exact ⟨rfl, by (repeat (first | exact Below.refl _ _ | assumption | refine Below.setCell ?_ (by simp) _ | refine Below.alloc ?_ (by simp <;> omega) _ | refine Below.drew ?_ | refine Below.drewN ?_ | refine Below.setRow ?_ (by simp <;> omega) _))⟩
    · have x0 := hr.g0.1; have x1 := hr.g0.2
      clear hr
      have e : bits .and .i64 4 3 = 0 := by decide
      go_enter Tryz.func163, Tryz.ntmps163
      go_wp2_with (go_at_call 141; refine (word_yes _ _ (by decide) (by decide)).mono ?_; rintro e w' ⟨rfl, rfl⟩)
      go_quiet ((go_at_call 86; exact quietS (high_any _ _ x0 x1)))
      go_wp2_with fail
      go_ret2
      exact ⟨rfl, by (repeat (first | exact Below.refl _ _ | assumption | refine Below.setCell ?_ (by simp) _ | refine Below.alloc ?_ (by simp <;> omega) _ | refine Below.drew ?_ | refine Below.drewN ?_ | refine Below.setRow ?_ (by simp <;> omega) _))⟩
    · have x0 := hr.g1.1; have x1 := hr.g1.2
      clear hr
      have e : bits .and .i64 5 3 = 1 := by decide
      go_enter Tryz.func163, Tryz.ntmps163
      go_wp2_with (go_at_call 141; refine (word_yes _ _ (by decide) (by decide)).mono ?_; rintro e w' ⟨rfl, rfl⟩)
      go_quiet ((go_at_call 86; exact quietS (high_any _ _ x0 x1)))
      go_wp2_with fail
      go_ret2
      exact ⟨rfl, by (repeat (first | exact Below.refl _ _ | assumption | refine Below.setCell ?_ (by simp) _ | refine Below.alloc ?_ (by simp <;> omega) _ | refine Below.drew ?_ | refine Below.drewN ?_ | refine Below.setRow ?_ (by simp <;> omega) _))⟩
    · have x0 := hr.g2.1; have x1 := hr.g2.2
      clear hr
      have e : bits .and .i64 6 3 = 2 := by decide
      go_enter Tryz.func163, Tryz.ntmps163
      go_wp2_with (go_at_call 141; refine (word_yes _ _ (by decide) (by decide)).mono ?_; rintro e w' ⟨rfl, rfl⟩)
      go_quiet ((go_at_call 86; exact quietS (high_any _ _ x0 x1)))
      go_wp2_with fail
      go_ret2
      exact ⟨rfl, by (repeat (first | exact Below.refl _ _ | assumption | refine Below.setCell ?_ (by simp) _ | refine Below.alloc ?_ (by simp <;> omega) _ | refine Below.drew ?_ | refine Below.drewN ?_ | refine Below.setRow ?_ (by simp <;> omega) _))⟩
    · have x0 := hr.g3.1; have x1 := hr.g3.2
      clear hr
      have e : bits .and .i64 7 3 = 3 := by decide
      go_enter Tryz.func163, Tryz.ntmps163
      go_wp2_with (go_at_call 141; refine (word_yes _ _ (by decide) (by decide)).mono ?_; rintro e w' ⟨rfl, rfl⟩)
      go_quiet ((go_at_call 86; exact quietS (high_any _ _ x0 x1)))
      go_wp2_with fail
      go_ret2
      exact ⟨rfl, by (repeat (first | exact Below.refl _ _ | assumption | refine Below.setCell ?_ (by simp) _ | refine Below.alloc ?_ (by simp <;> omega) _ | refine Below.drew ?_ | refine Below.drewN ?_ | refine Below.setRow ?_ (by simp <;> omega) _))⟩
  · have hv : r.byteV n = 0 := by unfold Regs.byteV; rw [if_neg h]
    have hc : r.byteC n = true := by unfold Regs.byteC; rw [if_neg h]
    rw [hv, hc]
    clear hv hc
    go_enter Tryz.func163, Tryz.ntmps163
    go_wp2_with (go_at_call 141; refine (word_no _ _ (by assumption)).mono ?_; rintro e w' ⟨rfl, rfl⟩)
    go_ret2
    exact ⟨rfl, by (repeat (first | exact Below.refl _ _ | assumption | refine Below.setCell ?_ (by simp) _ | refine Below.alloc ?_ (by simp <;> omega) _ | refine Below.drew ?_ | refine Below.drewN ?_ | refine Below.setRow ?_ (by simp <;> omega) _))⟩

abbrev orW (a b : Int) : Int := bits .or .u16 a b
set_option maxHeartbeats 800000 in
theorem flagsWord_any (r : Regs) (w : World) : Calls Tryz.prog 180 #[r.val] w fun e w' => e = .returned (.int .u16 (orW (andW r.f 4053) 61442)) ∧ Below w.heap.size w w' := by
  go_enter Tryz.func180, Tryz.ntmps180
  go_wp2
  go_ret
  exact ⟨rfl, (by (repeat (first | exact Below.refl _ _ | assumption | refine Below.setCell ?_ (by simp) _ | refine Below.alloc ?_ (by simp <;> omega) _ | refine Below.drew ?_ | refine Below.drewN ?_ | refine Below.setRow ?_ (by simp <;> omega) _)))⟩
abbrev andNotW (a b : Int) : Int := bits .andNot .u16 a b
/-- The registers with a flag set, or not. -/
def Regs.withF (r : Regs) (f : Int) (on : Bool) : Regs := { r with f := if on then orW (andNotW r.f (andW f 4053)) (andW f 4053) else andNotW r.f (andW f 4053) }
set_option maxHeartbeats 1600000 in
theorem with_any (r : Regs) (f : Int) (on : Bool) (w : World) : Calls Tryz.prog 182 #[r.val, .int .u16 f, .bool on] w fun e w' => e = .returned (r.withF f on).val ∧ Below w.heap.size w w' := by
  cases on with
  | false =>
    rw [show r.withF f false = { r with f := andNotW r.f (andW f 4053) } from rfl]
    go_enter Tryz.func182, Tryz.ntmps182
    go_wp2_with (first | (refine load_regs rfl _ rfl _ rfl ?_ ?_ ?_ ?_; rotate_left 2; (focus ((repeat (first | assumption | (refine Row.new' ?_; simp; done) | refine Row.alloc ?_ _ | refine Row.drew ?_ | refine Row.drewN ?_ | refine Row.setCell_other ?_ _ _ (by simp; omega))); done)); simp only [Act.put, List.setIfInBounds_toArray, List.set_cons_succ, List.set_cons_zero]) | (refine store_regs rfl _ _ rfl _ rfl _ rfl ?_ ?_ ?_ ?_ ?_; rotate_left 2; (focus ((repeat (first | assumption | (refine Row.new' ?_; simp; done) | refine Row.alloc ?_ _ | refine Row.drew ?_ | refine Row.drewN ?_ | refine Row.setCell_other ?_ _ _ (by simp; omega))); done)); (focus (rfl; done)); simp only [Act.put, List.setIfInBounds_toArray, List.set_cons_succ, List.set_cons_zero]; (try simp only [setRow_alloc_at, setRow_alloc_past, World.size_alloc])))
    (refine bodyPost_ret (results_regs rfl _ _ _ ?_ ?_ rfl ?_) rfl ?_; rotate_left 2; (focus ((repeat (first | assumption | (refine Row.new' ?_; simp; done) | refine Row.alloc ?_ _ | refine Row.drew ?_ | refine Row.drewN ?_ | refine Row.setCell_other ?_ _ _ (by simp; omega))); done)); refine ⟨rfl, ?_⟩)
    (repeat (first | exact Below.refl _ _ | assumption | refine Below.setCell ?_ (by simp) _ | refine Below.alloc ?_ (by simp <;> omega) _ | refine Below.drew ?_ | refine Below.drewN ?_ | refine Below.setRow ?_ (by simp <;> omega) _))
  | true =>
    rw [show r.withF f true = { r with f := orW (andNotW r.f (andW f 4053)) (andW f 4053) } from rfl]
    go_enter Tryz.func182, Tryz.ntmps182
    go_wp2_with (first | (refine load_regs rfl _ rfl _ rfl ?_ ?_ ?_ ?_; rotate_left 2; (focus ((repeat (first | assumption | (refine Row.new' ?_; simp; done) | refine Row.alloc ?_ _ | refine Row.drew ?_ | refine Row.drewN ?_ | refine Row.setCell_other ?_ _ _ (by simp; omega))); done)); simp only [Act.put, List.setIfInBounds_toArray, List.set_cons_succ, List.set_cons_zero]) | (refine store_regs rfl _ _ rfl _ rfl _ rfl ?_ ?_ ?_ ?_ ?_; rotate_left 2; (focus ((repeat (first | assumption | (refine Row.new' ?_; simp; done) | refine Row.alloc ?_ _ | refine Row.drew ?_ | refine Row.drewN ?_ | refine Row.setCell_other ?_ _ _ (by simp; omega))); done)); (focus (rfl; done)); simp only [Act.put, List.setIfInBounds_toArray, List.set_cons_succ, List.set_cons_zero]; (try simp only [setRow_alloc_at, setRow_alloc_past, World.size_alloc])))
    (refine bodyPost_ret (results_regs rfl _ _ _ ?_ ?_ rfl ?_) rfl ?_; rotate_left 2; (focus ((repeat (first | assumption | (refine Row.new' ?_; simp; done) | refine Row.alloc ?_ _ | refine Row.drew ?_ | refine Row.drewN ?_ | refine Row.setCell_other ?_ _ _ (by simp; omega))); done)); refine ⟨rfl, ?_⟩)
    (repeat (first | exact Below.refl _ _ | assumption | refine Below.setCell ?_ (by simp) _ | refine Below.alloc ?_ (by simp <;> omega) _ | refine Below.drew ?_ | refine Below.drewN ?_ | refine Below.setRow ?_ (by simp <;> omega) _))
end Go.Proofs.YtcglkefaopgjeaaGreatDoor

/- Package regs: PutByte. -/
namespace Go.Proofs.YtcglkefaopgjeaaGreatDoor
set_option linter.unusedSimpArgs false
set_option linter.unusedVariables false
open Go.RowKit

theorem row_putR {w : World} {g : Nat} {cs : Array Value} {t : TypeId} (h : Row w g cs t) (hs : cs.size = 26) (r : Regs) : Row (putR w g r) g r.cells t := by
  have := Row.putR h r
  rwa [hs, show cs.extract 26 26 = #[] from by simp; omega, Array.append_empty] at this
theorem results_regs2 {fn : Func} {p q : Tmp} (h : fn.results = #[.cell p 28, .tmp q]) (tmps : Array Value) (w : World) (g : Nat) (t : TypeId) (r : Regs) (v : Value)
    (hp : tmps.getD p undef = .pointer (some ⟨g, 0, none⟩)) (hq : tmps.getD q undef = v) (hg : Row w g r.cells t) : (results fn tmps).run Tryz.prog w = .ok (.tuple #[r.val, v]) w := by
  have g2 : tmps[p]?.getD undef = .pointer (some ⟨g, 0, none⟩) := by simpa using hp
  have g3 : tmps[q]?.getD undef = v := by simpa using hq
  have li := run_loadVar_row (P := Tryz.prog) w g t 28 r.cells (0, 0) _ hg Tryz.underlying28 rfl info_regs
  simp [results, h, g2, g3, asAddr, li]

set_option maxRecDepth 100000 in
set_option maxHeartbeats 1600000 in
theorem putByte_0 (r : Regs) (b : Int) (b0 : 0 ≤ b) (b1 : b ≤ 255) (x0 : 0 ≤ r.g0.v) (x1 : r.g0.v ≤ 65535) (w : World) : Calls Tryz.prog 215 #[r.val, .int .i64 0, .int .u8 b] w fun e w' => e = .returned (.tuple #[({ r with g0 := ⟨b + 256 * (r.g0.v / 256), false⟩ } : Regs).val, .bool (!r.g0.t)]) ∧ Below w.heap.size w w' := by
  have e : bits .and .i64 0 3 = 0 := by decide
  have y0 : 0 ≤ r.g0.v / 256 := by omega
  have y1 : r.g0.v / 256 ≤ 255 := by omega
  have z0 : 0 ≤ r.g0.v % 256 := by omega
  have z1 : r.g0.v % 256 ≤ 255 := by omega
  go_enter Tryz.func215, Tryz.ntmps215
  go_wp2_with (first | (go_at_call 141; refine (word_yes _ _ (by decide) (by decide)).mono ?_; rintro e w' ⟨rfl, rfl⟩) | (go_at_call 86; refine (high_any _ _ x0 x1).mono ?_; rintro e w' ⟨rfl, rfl⟩) | (go_at_call 85; refine (low_any _ _ x0 x1).mono ?_; rintro e w' ⟨rfl, rfl⟩) | (go_at_call 105; refine (bword_any _ _ _ (by omega) (by omega) (by omega) (by omega)).mono ?_; rintro e w' ⟨rfl, rfl⟩))
  go_region
  go_wp2_with fail
  refine bodyPost_ret (results_regs2 rfl _ _ (w.heap.size + 1) 28 _ _ rfl rfl ?_) rfl ⟨rfl, ?_⟩
  · exact (row_putR ((Row.new' (by simp)).alloc _) rfl _).drew
  · exact Below.drew (Below.putR ((((Below.refl w.heap.size w).alloc (Nat.le_refl _) _).alloc (by simp) _).alloc (by simp; omega) _) (by omega) _)
set_option maxRecDepth 100000 in
set_option maxHeartbeats 1600000 in
theorem putByte_1 (r : Regs) (b : Int) (b0 : 0 ≤ b) (b1 : b ≤ 255) (x0 : 0 ≤ r.g1.v) (x1 : r.g1.v ≤ 65535) (w : World) : Calls Tryz.prog 215 #[r.val, .int .i64 1, .int .u8 b] w fun e w' => e = .returned (.tuple #[({ r with g1 := ⟨b + 256 * (r.g1.v / 256), false⟩ } : Regs).val, .bool (!r.g1.t)]) ∧ Below w.heap.size w w' := by
  have e : bits .and .i64 1 3 = 1 := by decide
  have y0 : 0 ≤ r.g1.v / 256 := by omega
  have y1 : r.g1.v / 256 ≤ 255 := by omega
  have z0 : 0 ≤ r.g1.v % 256 := by omega
  have z1 : r.g1.v % 256 ≤ 255 := by omega
  go_enter Tryz.func215, Tryz.ntmps215
  go_wp2_with (first | (go_at_call 141; refine (word_yes _ _ (by decide) (by decide)).mono ?_; rintro e w' ⟨rfl, rfl⟩) | (go_at_call 86; refine (high_any _ _ x0 x1).mono ?_; rintro e w' ⟨rfl, rfl⟩) | (go_at_call 85; refine (low_any _ _ x0 x1).mono ?_; rintro e w' ⟨rfl, rfl⟩) | (go_at_call 105; refine (bword_any _ _ _ (by omega) (by omega) (by omega) (by omega)).mono ?_; rintro e w' ⟨rfl, rfl⟩))
  go_region
  go_wp2_with fail
  refine bodyPost_ret (results_regs2 rfl _ _ (w.heap.size + 1) 28 _ _ rfl rfl ?_) rfl ⟨rfl, ?_⟩
  · exact (row_putR ((Row.new' (by simp)).alloc _) rfl _).drew
  · exact Below.drew (Below.putR ((((Below.refl w.heap.size w).alloc (Nat.le_refl _) _).alloc (by simp) _).alloc (by simp; omega) _) (by omega) _)
set_option maxRecDepth 100000 in
set_option maxHeartbeats 1600000 in
theorem putByte_2 (r : Regs) (b : Int) (b0 : 0 ≤ b) (b1 : b ≤ 255) (x0 : 0 ≤ r.g2.v) (x1 : r.g2.v ≤ 65535) (w : World) : Calls Tryz.prog 215 #[r.val, .int .i64 2, .int .u8 b] w fun e w' => e = .returned (.tuple #[({ r with g2 := ⟨b + 256 * (r.g2.v / 256), false⟩ } : Regs).val, .bool (!r.g2.t)]) ∧ Below w.heap.size w w' := by
  have e : bits .and .i64 2 3 = 2 := by decide
  have y0 : 0 ≤ r.g2.v / 256 := by omega
  have y1 : r.g2.v / 256 ≤ 255 := by omega
  have z0 : 0 ≤ r.g2.v % 256 := by omega
  have z1 : r.g2.v % 256 ≤ 255 := by omega
  go_enter Tryz.func215, Tryz.ntmps215
  go_wp2_with (first | (go_at_call 141; refine (word_yes _ _ (by decide) (by decide)).mono ?_; rintro e w' ⟨rfl, rfl⟩) | (go_at_call 86; refine (high_any _ _ x0 x1).mono ?_; rintro e w' ⟨rfl, rfl⟩) | (go_at_call 85; refine (low_any _ _ x0 x1).mono ?_; rintro e w' ⟨rfl, rfl⟩) | (go_at_call 105; refine (bword_any _ _ _ (by omega) (by omega) (by omega) (by omega)).mono ?_; rintro e w' ⟨rfl, rfl⟩))
  go_region
  go_wp2_with fail
  refine bodyPost_ret (results_regs2 rfl _ _ (w.heap.size + 1) 28 _ _ rfl rfl ?_) rfl ⟨rfl, ?_⟩
  · exact (row_putR ((Row.new' (by simp)).alloc _) rfl _).drew
  · exact Below.drew (Below.putR ((((Below.refl w.heap.size w).alloc (Nat.le_refl _) _).alloc (by simp) _).alloc (by simp; omega) _) (by omega) _)
set_option maxRecDepth 100000 in
set_option maxHeartbeats 1600000 in
theorem putByte_3 (r : Regs) (b : Int) (b0 : 0 ≤ b) (b1 : b ≤ 255) (x0 : 0 ≤ r.g3.v) (x1 : r.g3.v ≤ 65535) (w : World) : Calls Tryz.prog 215 #[r.val, .int .i64 3, .int .u8 b] w fun e w' => e = .returned (.tuple #[({ r with g3 := ⟨b + 256 * (r.g3.v / 256), false⟩ } : Regs).val, .bool (!r.g3.t)]) ∧ Below w.heap.size w w' := by
  have e : bits .and .i64 3 3 = 3 := by decide
  have y0 : 0 ≤ r.g3.v / 256 := by omega
  have y1 : r.g3.v / 256 ≤ 255 := by omega
  have z0 : 0 ≤ r.g3.v % 256 := by omega
  have z1 : r.g3.v % 256 ≤ 255 := by omega
  go_enter Tryz.func215, Tryz.ntmps215
  go_wp2_with (first | (go_at_call 141; refine (word_yes _ _ (by decide) (by decide)).mono ?_; rintro e w' ⟨rfl, rfl⟩) | (go_at_call 86; refine (high_any _ _ x0 x1).mono ?_; rintro e w' ⟨rfl, rfl⟩) | (go_at_call 85; refine (low_any _ _ x0 x1).mono ?_; rintro e w' ⟨rfl, rfl⟩) | (go_at_call 105; refine (bword_any _ _ _ (by omega) (by omega) (by omega) (by omega)).mono ?_; rintro e w' ⟨rfl, rfl⟩))
  go_region
  go_wp2_with fail
  refine bodyPost_ret (results_regs2 rfl _ _ (w.heap.size + 1) 28 _ _ rfl rfl ?_) rfl ⟨rfl, ?_⟩
  · exact (row_putR ((Row.new' (by simp)).alloc _) rfl _).drew
  · exact Below.drew (Below.putR ((((Below.refl w.heap.size w).alloc (Nat.le_refl _) _).alloc (by simp) _).alloc (by simp; omega) _) (by omega) _)
set_option maxRecDepth 100000 in
set_option maxHeartbeats 1600000 in
theorem putByte_4 (r : Regs) (b : Int) (b0 : 0 ≤ b) (b1 : b ≤ 255) (x0 : 0 ≤ r.g0.v) (x1 : r.g0.v ≤ 65535) (w : World) : Calls Tryz.prog 215 #[r.val, .int .i64 4, .int .u8 b] w fun e w' => e = .returned (.tuple #[({ r with g0 := ⟨r.g0.v % 256 + 256 * b, false⟩ } : Regs).val, .bool (!r.g0.t)]) ∧ Below w.heap.size w w' := by
  have e : bits .and .i64 4 3 = 0 := by decide
  have y0 : 0 ≤ r.g0.v / 256 := by omega
  have y1 : r.g0.v / 256 ≤ 255 := by omega
  have z0 : 0 ≤ r.g0.v % 256 := by omega
  have z1 : r.g0.v % 256 ≤ 255 := by omega
  go_enter Tryz.func215, Tryz.ntmps215
  go_wp2_with (first | (go_at_call 141; refine (word_yes _ _ (by decide) (by decide)).mono ?_; rintro e w' ⟨rfl, rfl⟩) | (go_at_call 86; refine (high_any _ _ x0 x1).mono ?_; rintro e w' ⟨rfl, rfl⟩) | (go_at_call 85; refine (low_any _ _ x0 x1).mono ?_; rintro e w' ⟨rfl, rfl⟩) | (go_at_call 105; refine (bword_any _ _ _ (by omega) (by omega) (by omega) (by omega)).mono ?_; rintro e w' ⟨rfl, rfl⟩))
  go_region
  go_wp2_with fail
  refine bodyPost_ret (results_regs2 rfl _ _ (w.heap.size + 1) 28 _ _ rfl rfl ?_) rfl ⟨rfl, ?_⟩
  · exact (row_putR ((Row.new' (by simp)).alloc _) rfl _).drew
  · exact Below.drew (Below.putR ((((Below.refl w.heap.size w).alloc (Nat.le_refl _) _).alloc (by simp) _).alloc (by simp; omega) _) (by omega) _)
set_option maxRecDepth 100000 in
set_option maxHeartbeats 1600000 in
theorem putByte_5 (r : Regs) (b : Int) (b0 : 0 ≤ b) (b1 : b ≤ 255) (x0 : 0 ≤ r.g1.v) (x1 : r.g1.v ≤ 65535) (w : World) : Calls Tryz.prog 215 #[r.val, .int .i64 5, .int .u8 b] w fun e w' => e = .returned (.tuple #[({ r with g1 := ⟨r.g1.v % 256 + 256 * b, false⟩ } : Regs).val, .bool (!r.g1.t)]) ∧ Below w.heap.size w w' := by
  have e : bits .and .i64 5 3 = 1 := by decide
  have y0 : 0 ≤ r.g1.v / 256 := by omega
  have y1 : r.g1.v / 256 ≤ 255 := by omega
  have z0 : 0 ≤ r.g1.v % 256 := by omega
  have z1 : r.g1.v % 256 ≤ 255 := by omega
  go_enter Tryz.func215, Tryz.ntmps215
  go_wp2_with (first | (go_at_call 141; refine (word_yes _ _ (by decide) (by decide)).mono ?_; rintro e w' ⟨rfl, rfl⟩) | (go_at_call 86; refine (high_any _ _ x0 x1).mono ?_; rintro e w' ⟨rfl, rfl⟩) | (go_at_call 85; refine (low_any _ _ x0 x1).mono ?_; rintro e w' ⟨rfl, rfl⟩) | (go_at_call 105; refine (bword_any _ _ _ (by omega) (by omega) (by omega) (by omega)).mono ?_; rintro e w' ⟨rfl, rfl⟩))
  go_region
  go_wp2_with fail
  refine bodyPost_ret (results_regs2 rfl _ _ (w.heap.size + 1) 28 _ _ rfl rfl ?_) rfl ⟨rfl, ?_⟩
  · exact (row_putR ((Row.new' (by simp)).alloc _) rfl _).drew
  · exact Below.drew (Below.putR ((((Below.refl w.heap.size w).alloc (Nat.le_refl _) _).alloc (by simp) _).alloc (by simp; omega) _) (by omega) _)
set_option maxRecDepth 100000 in
set_option maxHeartbeats 1600000 in
theorem putByte_6 (r : Regs) (b : Int) (b0 : 0 ≤ b) (b1 : b ≤ 255) (x0 : 0 ≤ r.g2.v) (x1 : r.g2.v ≤ 65535) (w : World) : Calls Tryz.prog 215 #[r.val, .int .i64 6, .int .u8 b] w fun e w' => e = .returned (.tuple #[({ r with g2 := ⟨r.g2.v % 256 + 256 * b, false⟩ } : Regs).val, .bool (!r.g2.t)]) ∧ Below w.heap.size w w' := by
  have e : bits .and .i64 6 3 = 2 := by decide
  have y0 : 0 ≤ r.g2.v / 256 := by omega
  have y1 : r.g2.v / 256 ≤ 255 := by omega
  have z0 : 0 ≤ r.g2.v % 256 := by omega
  have z1 : r.g2.v % 256 ≤ 255 := by omega
  go_enter Tryz.func215, Tryz.ntmps215
  go_wp2_with (first | (go_at_call 141; refine (word_yes _ _ (by decide) (by decide)).mono ?_; rintro e w' ⟨rfl, rfl⟩) | (go_at_call 86; refine (high_any _ _ x0 x1).mono ?_; rintro e w' ⟨rfl, rfl⟩) | (go_at_call 85; refine (low_any _ _ x0 x1).mono ?_; rintro e w' ⟨rfl, rfl⟩) | (go_at_call 105; refine (bword_any _ _ _ (by omega) (by omega) (by omega) (by omega)).mono ?_; rintro e w' ⟨rfl, rfl⟩))
  go_region
  go_wp2_with fail
  refine bodyPost_ret (results_regs2 rfl _ _ (w.heap.size + 1) 28 _ _ rfl rfl ?_) rfl ⟨rfl, ?_⟩
  · exact (row_putR ((Row.new' (by simp)).alloc _) rfl _).drew
  · exact Below.drew (Below.putR ((((Below.refl w.heap.size w).alloc (Nat.le_refl _) _).alloc (by simp) _).alloc (by simp; omega) _) (by omega) _)
set_option maxRecDepth 100000 in
set_option maxHeartbeats 1600000 in
theorem putByte_7 (r : Regs) (b : Int) (b0 : 0 ≤ b) (b1 : b ≤ 255) (x0 : 0 ≤ r.g3.v) (x1 : r.g3.v ≤ 65535) (w : World) : Calls Tryz.prog 215 #[r.val, .int .i64 7, .int .u8 b] w fun e w' => e = .returned (.tuple #[({ r with g3 := ⟨r.g3.v % 256 + 256 * b, false⟩ } : Regs).val, .bool (!r.g3.t)]) ∧ Below w.heap.size w w' := by
  have e : bits .and .i64 7 3 = 3 := by decide
  have y0 : 0 ≤ r.g3.v / 256 := by omega
  have y1 : r.g3.v / 256 ≤ 255 := by omega
  have z0 : 0 ≤ r.g3.v % 256 := by omega
  have z1 : r.g3.v % 256 ≤ 255 := by omega
  go_enter Tryz.func215, Tryz.ntmps215
  go_wp2_with (first | (go_at_call 141; refine (word_yes _ _ (by decide) (by decide)).mono ?_; rintro e w' ⟨rfl, rfl⟩) | (go_at_call 86; refine (high_any _ _ x0 x1).mono ?_; rintro e w' ⟨rfl, rfl⟩) | (go_at_call 85; refine (low_any _ _ x0 x1).mono ?_; rintro e w' ⟨rfl, rfl⟩) | (go_at_call 105; refine (bword_any _ _ _ (by omega) (by omega) (by omega) (by omega)).mono ?_; rintro e w' ⟨rfl, rfl⟩))
  go_region
  go_wp2_with fail
  refine bodyPost_ret (results_regs2 rfl _ _ (w.heap.size + 1) 28 _ _ rfl rfl ?_) rfl ⟨rfl, ?_⟩
  · exact (row_putR ((Row.new' (by simp)).alloc _) rfl _).drew
  · exact Below.drew (Below.putR ((((Below.refl w.heap.size w).alloc (Nat.le_refl _) _).alloc (by simp) _).alloc (by simp; omega) _) (by omega) _)
theorem regsPutByte_any (r : Regs) (hr : r.wf) (n b : Int) (b0 : 0 ≤ b) (b1 : b ≤ 255) (w : World) : Calls Tryz.prog 215 #[r.val, .int .i64 n, .int .u8 b] w fun e w' => e = .returned (.tuple #[(r.putByte n b).val, .bool (r.byteC n)]) ∧ Below w.heap.size w w' := by
  by_cases h : 0 ≤ n ∧ n < 8
  · have hc : r.byteC n = !(r.get (n % 4)).t := by unfold Regs.byteC; rw [if_pos h]
    have hp : r.putByte n b = r.put (n % 4) ⟨if 3 < n then (r.get (n % 4)).v % 256 + 256 * b else b + 256 * ((r.get (n % 4)).v / 256), false⟩ := by unfold Regs.putByte; rw [if_pos h]
    rw [hp, hc]
    clear hp hc
    obtain ⟨h0, h8⟩ := h
    rcases cases8 h0 h8 with rfl | rfl | rfl | rfl | rfl | rfl | rfl | rfl
    · exact putByte_0 r b b0 b1 hr.g0.1 hr.g0.2 w
    · exact putByte_1 r b b0 b1 hr.g1.1 hr.g1.2 w
    · exact putByte_2 r b b0 b1 hr.g2.1 hr.g2.2 w
    · exact putByte_3 r b b0 b1 hr.g3.1 hr.g3.2 w
    · exact putByte_4 r b b0 b1 hr.g0.1 hr.g0.2 w
    · exact putByte_5 r b b0 b1 hr.g1.1 hr.g1.2 w
    · exact putByte_6 r b b0 b1 hr.g2.1 hr.g2.2 w
    · exact putByte_7 r b b0 b1 hr.g3.1 hr.g3.2 w
  · have hc : r.byteC n = true := by unfold Regs.byteC; rw [if_neg h]
    have hp : r.putByte n b = r := by unfold Regs.putByte; rw [if_neg h]
    rw [hp, hc]
    clear hp hc
    go_enter Tryz.func215, Tryz.ntmps215
    go_wp2_with (first | (go_at_call 141; refine (word_no _ _ (by assumption)).mono ?_; rintro e w' ⟨rfl, rfl⟩) | fail)
    refine bodyPost_ret (results_regs2 rfl _ _ (w.heap.size + 1) 28 _ _ rfl rfl ?_) rfl ⟨rfl, ?_⟩
    · exact row_putR (Row.new' (by simp)) rfl _
    · exact Below.putR (((Below.refl w.heap.size w).alloc (Nat.le_refl _) _).alloc (by simp) _) (by omega) _
end Go.Proofs.YtcglkefaopgjeaaGreatDoor

/- Package core: registers' bytes. -/
namespace Go.Proofs.YtcglkefaopgjeaaGreatDoor
set_option linter.unusedSimpArgs false
set_option linter.unusedVariables false
open Go.RowKit

set_option maxRecDepth 100000 in
set_option maxHeartbeats 1600000 in
theorem regByte_any (w : World) (C : Phys) (lv : Value) (m : Mach) (h : Own w C lv m) (n : Int) :
    Calls Tryz.prog 107 #[.pointer (some ⟨C.b, 0, none⟩), .int .i64 n] w fun e w' => e = .returned (V.val ⟨m.r.byteV n, false⟩) ∧ After C lv w (m.regByteM n) w' := by
  have HX0 := Lib.hid (Box.new h #[.int .u16 0, .bool false] 24)
  have hr := h.wf.r
  have hb := Regs.byte_wf hr n
  have HO0 := Lib.hid h; have HA0 := Lib.hid (Acc.refl C lv w); have sc := HO0.out.sees.c; have sf := HO0.out.sees.f; have sr := HO0.out.sees.r; have ss := HO0.out.sees.s; have sl := HO0.out.sees.l; clear h
  go_enter Tryz.func107, Tryz.ntmps107
  go_wp2_with fail
  refine (regsByte_any m.r hr n _).mono ?_
  obtain ⟨bv, hbv⟩ : ∃ bv, m.r.byteV n = bv := ⟨_, rfl⟩
  obtain ⟨bc, hbc⟩ : ∃ bc, m.r.byteC n = bc := ⟨_, rfl⟩
  have HV := Lib.hid hbv
  have HC := Lib.hid (show m.regByteM n = m.sure bc from by rw [Mach.regByteM, hbc])
  rw [hbv] at hb ⊢
  rw [hbc]
  clear hbv hbc hr
  obtain ⟨b0, b1⟩ := hb
  rintro e w1 ⟨rfl, hb⟩; dsimp only
  have HO1 := Lib.hid ((HO0.out.alloc _).below hb)
  have HA1 := Lib.hid ((HA0.out.alloc _).below hb)
  have HX1 := Lib.hid (HX0.out.below hb)
  clear sc sf sr ss sl; clear hb
  have NO := HX1.out.no
  have ap := HO0.out.apart (Nat.le_refl _)
  cases bc with
  | true =>
    have x1 := HX1.out.row.cell
    have x2 := HX1.out.row.frozen
    have x3 := HX1.out.row.lt
    go_wp2_with fail
    have hz := (HX1.out.row.setCell 0 (.int .u16 bv)).setCell 1 (.bool false)
    refine bodyPost_ret (v := V.val ⟨bv, false⟩) (results_row rfl _ _ _ _ _ _ rfl hz Tryz.underlying24 rfl (by kernel_rfl)) rfl ?_
    rw [HC.out, HV.out]
    exact ⟨rfl, After.mk ((HO1.out.setBox (p := ⟨w.heap.size, 0, none⟩) NO ap _).setBox (p := ⟨w.heap.size, 1, none⟩) NO ap _) ((HA1.out.setNew (p := ⟨w.heap.size, 0, none⟩) (Nat.le_refl _) _).setNew (p := ⟨w.heap.size, 1, none⟩) (Nat.le_refl _) _)⟩
  | false =>
    go_wp2_with fail
    refine (stuck_any _ _ _ _ HO1.out).mono ?_
    rintro e w2 ⟨rfl, lv2, h2, f2, k2⟩; dsimp only
    have HO2 := Lib.hid h2
    have HA2 := Lib.hid (HA1.out.trans ⟨f2, k2⟩)
    have HX2 := Lib.hid (HX1.out.step f2 k2)
    clear h2 f2 k2 NO
    have NO := HX2.out.no
    have x1 := HX2.out.row.cell
    have x2 := HX2.out.row.frozen
    have x3 := HX2.out.row.lt
    go_wp2_with fail
    have hz := (HX2.out.row.setCell 0 (.int .u16 bv)).setCell 1 (.bool false)
    refine bodyPost_ret (v := V.val ⟨bv, false⟩) (results_row rfl _ _ _ _ _ _ rfl hz Tryz.underlying24 rfl (by kernel_rfl)) rfl ?_
    rw [HC.out, HV.out]
    exact ⟨rfl, After.mk ((HO2.out.setBox (p := ⟨w.heap.size, 0, none⟩) NO ap _).setBox (p := ⟨w.heap.size, 1, none⟩) NO ap _) ((HA2.out.setNew (p := ⟨w.heap.size, 0, none⟩) (Nat.le_refl _) _).setNew (p := ⟨w.heap.size, 1, none⟩) (Nat.le_refl _) _)⟩

abbrev zero26 : Array Value := #[.int .u16 0, .bool false, .int .u16 0, .bool false, .int .u16 0, .bool false, .int .u16 0, .bool false, .int .u16 0, .bool false, .int .u16 0, .bool false, .int .u16 0, .bool false, .int .u16 0, .bool false, .int .u16 0, .bool false, .int .u16 0, .bool false, .int .u16 0, .bool false, .int .u16 0, .bool false, .int .u16 0, .int .u16 0]
theorem lt_n' (w : World) (o : Obj) : w.heap.size < (w.alloc o).heap.size := by rw [World.size_alloc]; exact Nat.lt_succ_self _
theorem row_d (w : World) (cs : Array Value) (t : TypeId) : Row (w.drew.alloc (.cells cs t)) w.heap.size cs t := Row.new' rfl
theorem lt_d (w : World) (o : Obj) : w.heap.size < (w.drew.alloc o).heap.size := by rw [World.size_alloc]; exact Nat.lt_succ_self _
theorem row_e (w : World) (cs : Array Value) (t : TypeId) : Row (w.alloc (.cells cs t)).drew w.heap.size cs t := Row.new w cs t
theorem lt_e (w : World) (o : Obj) : w.heap.size < (w.alloc o).drew.heap.size := lt_n' w o
theorem below_in {a b c : World} (h : Below a.heap.size a b) (k : Below b.heap.size b c) : Below a.heap.size a c := h.trans (k.mono h.size)
theorem row_on {w w' : World} (hb : Below w.heap.size w w') {g : Nat} {cs : Array Value} {t : TypeId} (h : Row w g cs t) : Row w' g cs t := Below.row hb h h.lt
@[go_sem] theorem regsIn_putR_ne (w : World) (g k : Nat) (r : Regs) (h : k ≠ g) : regsIn (putR w g r) k = regsIn w k := by
  unfold regsIn; rw [putR_other w g k r h]
@[go_sem] theorem stOk_putR_ne (w : World) (g k : Nat) (r : Regs) (h : k ≠ g) : stOk (putR w g r) k = stOk w k := by
  unfold stOk; rw [putR_other w g k r h]
theorem Own.putFresh {w wo : World} {C : Phys} {lv : Value} {m : Mach} (h : Own w C lv m) (ho : Own wo C lv m) {k : Nat} (hk : wo.heap.size ≤ k) (r : Regs) : Own (Go.Proofs.YtcglkefaopgjeaaGreatDoor.putR w k r) C lv m :=
  have no := ho.fresh hk
  have ap := ho.apart hk
  h.kept (own := fun b => b = k) (Fr.putR (Fr.refl (fun b => b = k) w) rfl r) (fun e => no (Or.inl e.symm)) ap.1 (fun e => no (Or.inr (Or.inl e.symm))) (fun e => no (Or.inr (Or.inr (Or.inl e.symm)))) (fun e => no (Or.inr (Or.inr (Or.inr (Or.inl e.symm))))) ap.2 (fun b hb e => no (Or.inr (Or.inr (Or.inr (Or.inr (e ▸ hb))))))
theorem Acc.putFresh {C : Phys} {lv lv1 : Value} {w w1 : World} (h : Acc C lv w lv1 w1) {k : Nat} (hk : w.heap.size ≤ k) (r : Regs) : Acc C lv w lv1 (Go.Proofs.YtcglkefaopgjeaaGreatDoor.putR w1 k r) :=
  ⟨⟨h.f.os, h.f.tape, h.f.output, by simpa using h.f.size, fun b hb ho => (putR_other w1 k b r (by omega)).trans (h.f.block b hb ho)⟩, h.k⟩
theorem below_alloc {a b : World} (h : Below a.heap.size a b) (o : Obj) : Below a.heap.size a (b.alloc o) := h.alloc h.size o

set_option maxRecDepth 100000 in
set_option maxHeartbeats 1600000 in
theorem setByte_any (w : World) (C : Phys) (lv : Value) (m : Mach) (h : Own w C lv m) (n : Int) (v : V) (hv : v.wf) :
    Calls Tryz.prog 202 #[.pointer (some ⟨C.b, 0, none⟩), .int .i64 n, v.val] w fun e w' => e = .returned (.tuple #[]) ∧ After C lv w (m.setRegByte n v.v) w' := by
  have hr := h.wf.r
  obtain ⟨v0, v1⟩ := hv
  have y0 : 0 ≤ v.v % 256 := by omega
  have y1 : v.v % 256 ≤ 255 := by omega
  have ho := h.alloc (.cells #[.int .u16 v.v, .bool v.t] 24)
  have hx := Row.new w #[.int .u16 v.v, .bool v.t] 24
  have ha := (Acc.refl C lv w).alloc (.cells #[.int .u16 v.v, .bool v.t] 24)
  obtain ⟨bc, hbc⟩ : ∃ bc, m.r.byteC n = bc := ⟨_, rfl⟩
  obtain ⟨R, hR⟩ : ∃ R, m.r.putByte n (v.v % 256) = R := ⟨_, rfl⟩
  have HW := Lib.hid (show R.wf from hR ▸ Regs.putByte_wf hr n _ y0 y1)
  have HC := Lib.hid (show m.setRegByte n v.v = if bc then m.setR R else m.stuck from by rw [Mach.setRegByte, hbc, hR])
  have kp := fun w => regsPutByte_any m.r hr n (v.v % 256) y0 y1 w
  rw [hbc, hR] at kp
  clear hbc hR hr
  go_enter Tryz.func202, Tryz.ntmps202
  go_wp2_with fail
  generalize w.alloc (.cells #[.int .u16 v.v, .bool v.t] 24) = W0 at *
  go_cut [6, 7] (fun s6 s7 wx => ∃ k : Nat, s6 = .pointer (some ⟨k, 0, none⟩) ∧ s7 = .bool bc ∧ Own wx C lv m ∧ Acc C lv w lv wx ∧ regsIn wx k = some R.val)
  case first =>
    have HO0 := Lib.hid ho
    have HA0 := Lib.hid ha
    have KP := Lib.hid kp
    have sr := ho.sees.r
    have sl := ho.row.lt
    have sc := ho.row.cell
    have xc := hx.cell
    have HX0 := Lib.hid hx
    have xl := hx.lt
    have f5 : ¬ C.b = W0.heap.size := Nat.ne_of_lt sl
    have f6 : ¬ W0.heap.size = C.b := Ne.symm (Nat.ne_of_lt sl)
    clear ho ha hx kp h
    have x0 : W0.cell? ⟨w.heap.size, 0, none⟩ = some (.int .u16 v.v) := xc 0
    clear xc sc
    go_region_held3 (fun w' => regsIn w' C.b = some m.r.val ∧ w'.cell? ⟨w.heap.size, 0, none⟩ = some (.int .u16 v.v)) ((refine ⟨?_, ?_⟩; (focus ((repeat (first | assumption | (rw [regsIn_drew]) | (rw [regsIn_putR_ne _ _ _ _ (by first | assumption | omega)]) | (rw [regsIn_alloc_past _ _ _ (by first | assumption | (simp; omega))]))); done)); (focus ((try rw [cell_putR _ _ _ _ _ (by first | assumption | omega)]); go_keep)))) (first | (go_at_call 85; refine (low_any _ _ v0 v1).mono ?_; rintro e w' ⟨rfl, rfl⟩) | (go_at_call 215; refine (KP.out _).mono ?_; rintro e w9 ⟨rfl, hb⟩; have HO9 := Lib.hid (Own.below (C := C) (lv := lv) (m := m) (by (repeat (first | exact HO0.out | refine Own.alloc ?_ _ | refine Own.drew ?_))) hb); have HA9 := Lib.hid (Acc.below (C := C) (lv := lv) (lv1 := lv) (w := w) (by (repeat (first | exact HA0.out | refine Acc.alloc ?_ _ | refine Acc.drew ?_))) hb); have X9 : Row w9 w.heap.size #[.int .u16 v.v, .bool v.t] 24 := row_on hb (by (repeat (first | exact HX0.out | refine Row.alloc ?_ _ | refine Row.drew ?_))); have y0 : w9.cell? ⟨w.heap.size, 0, none⟩ = some (.int .u16 v.v) := X9.cell 0; have x_l := X9.lt; have l09 : W0.heap.size ≤ w9.heap.size := Nat.le_trans (by simp) hb.size; have s_r := HO9.out.sees.r; have s_l := HO9.out.row.lt; have f3 : ¬ C.b = w9.heap.size := Nat.ne_of_lt s_l; have f4 : ¬ w9.heap.size = C.b := Ne.symm (Nat.ne_of_lt s_l); (try ((first | with_reducible have R9 := Below.row hb (row_d W0 zero26 28) (lt_d W0 _) | with_reducible have R9 := Below.row hb (row_e W0 zero26 28) (lt_e W0 _)); have st9 := stOk_row R9 (by decide))); clear hb))
    all_goals
      go_wp2_with fail
      go_meet
      first
        | exact ⟨_, rfl, rfl, (HO9.out.alloc _).putFresh HO9.out (Nat.le_refl _) _, (HA9.out.alloc _).putFresh (Nat.le_trans (Nat.le_of_lt xl) l09) _, regsIn_putR _ _ _ (stOk_alloc_at _ _ _ _ rfl (by decide))⟩
        | exact ⟨_, rfl, rfl, HO9.out.putFresh HO0.out (Nat.le_refl _) _, HA9.out.putFresh (Nat.le_of_lt xl) _, regsIn_putR _ _ _ st9⟩
  case rest =>
    obtain ⟨k, rfl, rfl, h1, a1, r1⟩ := hcut
    have HO1 := Lib.hid h1
    have HA1 := Lib.hid a1
    clear h1 a1 ho hx ha kp h
    cases bc with
    | false =>
      go_wp2_with fail
      refine (stuck_any _ _ _ _ HO1.out).mono ?_
      rintro e w2 ⟨rfl, lv2, h2, f2, k2⟩; dsimp only
      have HO2 := Lib.hid h2
      have HA2 := Lib.hid (HA1.out.trans ⟨f2, k2⟩)
      clear h2 f2 k2
      go_wp2_with fail
      ((try simp only [Exit.inBlock, Exit.then]); refine bodyPost_ret (results_none rfl _ _ _) rfl ?_)
      rw [HC.out, if_neg (by decide)]
      exact ⟨rfl, After.mk HO2.out HA2.out⟩
    | true =>
      have sc := HO1.out.sees.c
      have ss := HO1.out.sees.s
      have sl := HO1.out.row.lt
      go_wp2_with fail
      go_end0
      rw [HC.out, if_pos trivial]
      exact ⟨rfl, After.mk (HO1.out.putR R HW.out) (HA1.out.putR R)⟩
end Go.Proofs.YtcglkefaopgjeaaGreatDoor

/- Package core: small. -/
namespace Go.Proofs.YtcglkefaopgjeaaGreatDoor
set_option linter.unusedSimpArgs false
set_option linter.unusedVariables false
open Go.RowKit

@[go_sem] theorem field_val0 (a b : Value) (w : World) : (Instr.field 24 (.agg #[a, b]) 0).run Tryz.prog w = .ok a w := by kernel_rfl
abbrev instC (i : Inst) : Array Value := #[.bool i.lock, .int .i64 i.rep, .int .i64 i.seg, .int .u8 i.op, .int .i64 i.mod, .int .i64 i.reg, .int .i64 i.rm, .int .u16 i.disp, .int .u16 i.imm, .int .u16 i.sel]
abbrev valC (x : V) : Array Value := #[.int .u16 x.v, .bool x.t]
/-- A word's box is filled and handed back. -/
theorem After.boxed {C : Phys} {lv lv1 : Value} {w w1 : World} {m m' : Mach} {k : Nat} {cs : Array Value} {t : TypeId} (h : Own w C lv m) (ho : Own w1 C lv1 m') (ha : Acc C lv w lv1 w1) (hx : Box C lv1 w1 k cs t) (hk : w.heap.size ≤ k) (a b : Value) :
    After C lv w m' ((w1.setCell ⟨k, 0, none⟩ a).setCell ⟨k, 1, none⟩ b) :=
  have ap := h.apart hk
  After.mk ((ho.setBox (p := ⟨k, 0, none⟩) hx.no ap _).setBox (p := ⟨k, 1, none⟩) hx.no ap _) ((ha.setNew (p := ⟨k, 0, none⟩) hk _).setNew (p := ⟨k, 1, none⟩) hk _)
theorem row_s2 {w : World} {g : Nat} {a b x y : Value} {t : TypeId} (h : Row w g #[a, b] t) : Row ((w.setCell ⟨g, 0, none⟩ x).setCell ⟨g, 1, none⟩ y) g #[x, y] t := (h.setCell 0 x).setCell 1 y

theorem op_seg (x : Int) (h0 : 0 ≤ x) (h1 : x ≤ 255) : bits .and .u8 (x / 8) 3 = x / 8 % 4 := by
  obtain ⟨n, rfl⟩ := Int.eq_ofNat_of_zero_le h0
  have key : ∀ m : Fin 256, bits .and .u8 (((m.val : Nat) : Int) / 8) 3 = ((m.val : Nat) : Int) / 8 % 4 := by decide +kernel
  exact key ⟨n, by omega⟩
/-- The boxes that small begins with. -/
structure SmIn (C : Phys) (lv : Value) (w : World) (m : Mach) (i : Inst) (W0 : World) : Prop where
  o : Own W0 C lv m
  a : Acc C lv w lv W0
  i : Row W0 w.heap.size (instC i) 30
  x : Box C lv W0 (w.heap.size + 1) #[.int .u16 0, .bool false] 24
theorem smIn {C : Phys} {lv : Value} {w : World} {m : Mach} (h : Own w C lv m) (i : Inst) : SmIn C lv w m i ((w.alloc (.cells (instC i) 30)).alloc (.cells #[.int .u16 0, .bool false] 24)) := by
  refine ⟨(h.alloc _).alloc _, ((Acc.refl C lv w).alloc _).alloc _, (Row.new _ _ _).alloc _, ?_⟩
  have := Box.new (h.alloc (.cells (instC i) 30)) #[.int .u16 0, .bool false] 24
  rwa [World.size_alloc] at this

set_option maxRecDepth 100000 in
set_option maxHeartbeats 1600000 in
theorem small_14 (w : World) (C : Phys) (lv : Value) (m : Mach) (h : Own w C lv m) (i : Inst) (h0 : 0 ≤ i.op) (h1 : i.op ≤ 255) :
    Calls Tryz.prog 112 #[.pointer (some ⟨C.b, 0, none⟩), i.val, .int .i64 14] w fun e w' => e = .returned (V.val ⟨m.r.byteV 0, false⟩) ∧ After C lv w (m.regByteM 0) w' := by
  have hs := smIn h i
  have H := Lib.hid h
  have e7 := u8_and7 i.op h0 (by omega)
  clear h
  go_enter Tryz.func112, Tryz.ntmps112
  go_wp2_with fail
  generalize (w.alloc (.cells (instC i) 30)).alloc (.cells #[.int .u16 0, .bool false] 24) = W0 at *
  have HO0 := Lib.hid hs.o
  have HA0 := Lib.hid hs.a
  have HX0 := Lib.hid hs.x
  clear hs
  refine (regByte_any _ _ _ _ HO0.out 0).mono ?_
  rintro e w2 ⟨rfl, lv2, h2, f2, k2⟩; dsimp only
  have HO2 := Lib.hid h2
  have HA2 := Lib.hid (HA0.out.trans ⟨f2, k2⟩)
  have HX2 := Lib.hid (HX0.out.step f2 k2)
  clear h2 f2 k2
  have x1 := HX2.out.row.cell
  have x2 := HX2.out.row.frozen
  have x3 := HX2.out.row.lt
  go_wp2_with fail
  refine bodyPost_ret (results_row rfl _ _ _ _ _ _ rfl (row_s2 HX2.out.row) Tryz.underlying24 rfl (by kernel_rfl)) rfl ⟨rfl, ?_⟩
  exact After.boxed H.out HO2.out HA2.out HX2.out (Nat.le_succ _) _ _

set_option maxRecDepth 100000 in
set_option maxHeartbeats 1600000 in
theorem small_15 (w : World) (C : Phys) (lv : Value) (m : Mach) (h : Own w C lv m) (i : Inst) (h0 : 0 ≤ i.op) (h1 : i.op ≤ 255) :
    Calls Tryz.prog 112 #[.pointer (some ⟨C.b, 0, none⟩), i.val, .int .i64 15] w fun e w' => e = .returned (V.val ⟨m.r.byteV 1, false⟩) ∧ After C lv w (m.regByteM 1) w' := by
  have hs := smIn h i
  have H := Lib.hid h
  have e7 := u8_and7 i.op h0 (by omega)
  clear h
  go_enter Tryz.func112, Tryz.ntmps112
  go_wp2_with fail
  generalize (w.alloc (.cells (instC i) 30)).alloc (.cells #[.int .u16 0, .bool false] 24) = W0 at *
  have HO0 := Lib.hid hs.o
  have HA0 := Lib.hid hs.a
  have HX0 := Lib.hid hs.x
  clear hs
  refine (regByte_any _ _ _ _ HO0.out 1).mono ?_
  rintro e w2 ⟨rfl, lv2, h2, f2, k2⟩; dsimp only
  have HO2 := Lib.hid h2
  have HA2 := Lib.hid (HA0.out.trans ⟨f2, k2⟩)
  have HX2 := Lib.hid (HX0.out.step f2 k2)
  clear h2 f2 k2
  have x1 := HX2.out.row.cell
  have x2 := HX2.out.row.frozen
  have x3 := HX2.out.row.lt
  go_wp2_with fail
  refine bodyPost_ret (results_row rfl _ _ _ _ _ _ rfl (row_s2 HX2.out.row) Tryz.underlying24 rfl (by kernel_rfl)) rfl ⟨rfl, ?_⟩
  exact After.boxed H.out HO2.out HA2.out HX2.out (Nat.le_succ _) _ _

set_option maxRecDepth 100000 in
set_option maxHeartbeats 1600000 in
theorem small_16 (w : World) (C : Phys) (lv : Value) (m : Mach) (h : Own w C lv m) (i : Inst) (h0 : 0 ≤ i.op) (h1 : i.op ≤ 255) :
    Calls Tryz.prog 112 #[.pointer (some ⟨C.b, 0, none⟩), i.val, .int .i64 16] w fun e w' => e = .returned (V.val m.r.g0) ∧ After C lv w m w' := by
  have hs := smIn h i
  have H := Lib.hid h
  have e7 := u8_and7 i.op h0 (by omega)
  clear h
  go_enter Tryz.func112, Tryz.ntmps112
  have sr := hs.o.sees.r
  have sl := hs.o.row.lt
  go_wp2_with fail
  generalize (w.alloc (.cells (instC i) 30)).alloc (.cells #[.int .u16 0, .bool false] 24) = W0 at *
  have HO0 := Lib.hid hs.o
  have HA0 := Lib.hid hs.a
  have HX0 := Lib.hid hs.x
  clear hs sr sl
  refine (get_any m.r 0 _).mono ?_
  rw [show m.r.get 0 = m.r.g0 from rfl]
  rintro e w2 ⟨rfl, hb⟩; dsimp only
  have HO2 := Lib.hid (HO0.out.below hb)
  have HA2 := Lib.hid (HA0.out.below hb)
  have HX2 := Lib.hid (HX0.out.below hb)
  clear hb
  have x1 := HX2.out.row.cell
  have x2 := HX2.out.row.frozen
  have x3 := HX2.out.row.lt
  go_wp2_with fail
  refine bodyPost_ret (results_row rfl _ _ _ _ _ _ rfl (row_s2 HX2.out.row) Tryz.underlying24 rfl (by kernel_rfl)) rfl ⟨rfl, ?_⟩
  exact After.boxed H.out HO2.out HA2.out HX2.out (Nat.le_succ _) _ _

set_option maxRecDepth 100000 in
set_option maxHeartbeats 1600000 in
theorem small_17 (w : World) (C : Phys) (lv : Value) (m : Mach) (h : Own w C lv m) (i : Inst) (h0 : 0 ≤ i.op) (h1 : i.op ≤ 255) :
    Calls Tryz.prog 112 #[.pointer (some ⟨C.b, 0, none⟩), i.val, .int .i64 17] w fun e w' => e = .returned (V.val m.r.g2) ∧ After C lv w m w' := by
  have hs := smIn h i
  have H := Lib.hid h
  have e7 := u8_and7 i.op h0 (by omega)
  clear h
  go_enter Tryz.func112, Tryz.ntmps112
  have sr := hs.o.sees.r
  have sl := hs.o.row.lt
  go_wp2_with fail
  generalize (w.alloc (.cells (instC i) 30)).alloc (.cells #[.int .u16 0, .bool false] 24) = W0 at *
  have HO0 := Lib.hid hs.o
  have HA0 := Lib.hid hs.a
  have HX0 := Lib.hid hs.x
  clear hs sr sl
  refine (get_any m.r 2 _).mono ?_
  rw [show m.r.get 2 = m.r.g2 from rfl]
  rintro e w2 ⟨rfl, hb⟩; dsimp only
  have HO2 := Lib.hid (HO0.out.below hb)
  have HA2 := Lib.hid (HA0.out.below hb)
  have HX2 := Lib.hid (HX0.out.below hb)
  clear hb
  have x1 := HX2.out.row.cell
  have x2 := HX2.out.row.frozen
  have x3 := HX2.out.row.lt
  go_wp2_with fail
  refine bodyPost_ret (results_row rfl _ _ _ _ _ _ rfl (row_s2 HX2.out.row) Tryz.underlying24 rfl (by kernel_rfl)) rfl ⟨rfl, ?_⟩
  exact After.boxed H.out HO2.out HA2.out HX2.out (Nat.le_succ _) _ _

set_option maxRecDepth 100000 in
set_option maxHeartbeats 1600000 in
theorem small_18 (w : World) (C : Phys) (lv : Value) (m : Mach) (h : Own w C lv m) (i : Inst) (h0 : 0 ≤ i.op) (h1 : i.op ≤ 255) :
    Calls Tryz.prog 112 #[.pointer (some ⟨C.b, 0, none⟩), i.val, .int .i64 18] w fun e w' => e = .returned (V.val ⟨1, false⟩) ∧ After C lv w m w' := by
  have hs := smIn h i
  have H := Lib.hid h
  have e7 := u8_and7 i.op h0 (by omega)
  clear h
  clear hs
  go_enter Tryz.func112, Tryz.ntmps112
  go_wp2_with fail
  refine bodyPost_ret (results_row rfl _ _ _ _ _ _ rfl (Row.new' (by simp)) Tryz.underlying24 rfl (by kernel_rfl)) rfl ⟨rfl, ?_⟩
  exact After.mk ((H.out.alloc _).alloc _) (((Acc.refl C lv w).alloc _).alloc _)

set_option maxRecDepth 100000 in
set_option maxHeartbeats 1600000 in
theorem small_24 (w : World) (C : Phys) (lv : Value) (m : Mach) (h : Own w C lv m) (i : Inst) (h0 : 0 ≤ i.op) (h1 : i.op ≤ 255) :
    Calls Tryz.prog 112 #[.pointer (some ⟨C.b, 0, none⟩), i.val, .int .i64 24] w fun e w' => e = .returned (V.val ⟨3, false⟩) ∧ After C lv w m w' := by
  have hs := smIn h i
  have H := Lib.hid h
  have e7 := u8_and7 i.op h0 (by omega)
  clear h
  clear hs
  go_enter Tryz.func112, Tryz.ntmps112
  go_wp2_with fail
  refine bodyPost_ret (results_row rfl _ _ _ _ _ _ rfl (Row.new' (by simp)) Tryz.underlying24 rfl (by kernel_rfl)) rfl ⟨rfl, ?_⟩
  exact After.mk ((H.out.alloc _).alloc _) (((Acc.refl C lv w).alloc _).alloc _)

set_option maxRecDepth 100000 in
set_option maxHeartbeats 1600000 in
theorem small_21 (w : World) (C : Phys) (lv : Value) (m : Mach) (h : Own w C lv m) (i : Inst) (h0 : 0 ≤ i.op) (h1 : i.op ≤ 255) :
    Calls Tryz.prog 112 #[.pointer (some ⟨C.b, 0, none⟩), i.val, .int .i64 21] w fun e w' => e = .returned (V.val ⟨m.r.byteV (i.op % 8), false⟩) ∧ After C lv w (m.regByteM (i.op % 8)) w' := by
  have hs := smIn h i
  have H := Lib.hid h
  have e7 := u8_and7 i.op h0 (by omega)
  clear h
  go_enter Tryz.func112, Tryz.ntmps112
  have c3 := hs.i.cell 3
  go_wp2_with fail
  generalize (w.alloc (.cells (instC i) 30)).alloc (.cells #[.int .u16 0, .bool false] 24) = W0 at *
  have HO0 := Lib.hid hs.o
  have HA0 := Lib.hid hs.a
  have HX0 := Lib.hid hs.x
  clear hs c3
  refine (regByte_any _ _ _ _ HO0.out (i.op % 8)).mono ?_
  rintro e w2 ⟨rfl, lv2, h2, f2, k2⟩; dsimp only
  have HO2 := Lib.hid h2
  have HA2 := Lib.hid (HA0.out.trans ⟨f2, k2⟩)
  have HX2 := Lib.hid (HX0.out.step f2 k2)
  clear h2 f2 k2
  have x1 := HX2.out.row.cell
  have x2 := HX2.out.row.frozen
  have x3 := HX2.out.row.lt
  go_wp2_with fail
  refine bodyPost_ret (results_row rfl _ _ _ _ _ _ rfl (row_s2 HX2.out.row) Tryz.underlying24 rfl (by kernel_rfl)) rfl ⟨rfl, ?_⟩
  exact After.boxed H.out HO2.out HA2.out HX2.out (Nat.le_succ _) _ _

set_option maxRecDepth 100000 in
set_option maxHeartbeats 1600000 in
theorem small_22 (w : World) (C : Phys) (lv : Value) (m : Mach) (h : Own w C lv m) (i : Inst) (h0 : 0 ≤ i.op) (h1 : i.op ≤ 255) :
    Calls Tryz.prog 112 #[.pointer (some ⟨C.b, 0, none⟩), i.val, .int .i64 22] w fun e w' => e = .returned (V.val (m.r.get (i.op % 8))) ∧ After C lv w m w' := by
  have hs := smIn h i
  have H := Lib.hid h
  have e7 := u8_and7 i.op h0 (by omega)
  clear h
  go_enter Tryz.func112, Tryz.ntmps112
  go_wp2_with fail
  generalize (w.alloc (.cells (instC i) 30)).alloc (.cells #[.int .u16 0, .bool false] 24) = W0 at *
  have HO0 := Lib.hid hs.o
  have HA0 := Lib.hid hs.a
  have HX0 := Lib.hid hs.x
  have sr := hs.o.sees.r
  have c3 : W0.cell? ⟨w.heap.size, 3, none⟩ = some (.int .u8 i.op) := hs.i.cell 3
  clear hs
  refine range_of (W0) ?_; intro S inst ω hin hout
  have r1 := range_regs hin sr
  have r2 := range_cell hin c3
  have k1 := range_call hin hout (get_any m.r (i.op % 8))
  clear sr c3
  refine wp_region_tail_range ω 9 (by kernel_rfl) (by kernel_rfl) (hout _ (Below.refl _ _).drew) ?_; simp only [List.take_succ_cons, List.take_zero, List.drop_succ_cons, List.drop_zero]
  repeat (go_big_quiet_step ((with_reducible exact k1 _)))
  refine wpQuiet_nil ?_; intro _ hw'; obtain ⟨nq, rfl⟩ := hw'
  have HO2 := Lib.hid (HO0.out.below (hin nq))
  have HA2 := Lib.hid (HA0.out.below (hin nq))
  have HX2 := Lib.hid (HX0.out.below (hin nq))
  clear r1 r2 k1
  generalize ω nq = w1 at HO2 HA2 HX2 ⊢
  have x1 := HX2.out.row.cell
  have x2 := HX2.out.row.frozen
  have x3 := HX2.out.row.lt
  go_wp2_with fail
  refine bodyPost_ret (results_row rfl _ _ _ _ _ _ rfl (row_s2 HX2.out.row) Tryz.underlying24 rfl (by kernel_rfl)) rfl ⟨rfl, ?_⟩
  exact After.boxed H.out HO2.out HA2.out HX2.out (Nat.le_succ _) _ _

set_option maxRecDepth 100000 in
set_option maxHeartbeats 1600000 in
theorem small_23 (w : World) (C : Phys) (lv : Value) (m : Mach) (h : Own w C lv m) (i : Inst) (h0 : 0 ≤ i.op) (h1 : i.op ≤ 255) :
    Calls Tryz.prog 112 #[.pointer (some ⟨C.b, 0, none⟩), i.val, .int .i64 23] w fun e w' => e = .returned (V.val (m.r.seg (i.op / 8 % 4))) ∧ After C lv w m w' := by
  have hs := smIn h i
  have H := Lib.hid h
  have e7 := u8_and7 i.op h0 (by omega)
  clear h
  go_enter Tryz.func112, Tryz.ntmps112
  go_wp2_with fail
  generalize (w.alloc (.cells (instC i) 30)).alloc (.cells #[.int .u16 0, .bool false] 24) = W0 at *
  have HO0 := Lib.hid hs.o
  have HA0 := Lib.hid hs.a
  have HX0 := Lib.hid hs.x
  have e3 := op_seg i.op h0 h1
  have sr := hs.o.sees.r
  have c3 : W0.cell? ⟨w.heap.size, 3, none⟩ = some (.int .u8 i.op) := hs.i.cell 3
  clear hs
  refine range_of (W0) ?_; intro S inst ω hin hout
  have r1 := range_regs hin sr
  have r2 := range_cell hin c3
  have k1 := range_call hin hout (seg_any m.r (i.op / 8 % 4))
  clear sr c3
  refine wp_region_tail_range ω 10 (by kernel_rfl) (by kernel_rfl) (hout _ (Below.refl _ _).drew) ?_; simp only [List.take_succ_cons, List.take_zero, List.drop_succ_cons, List.drop_zero]
  repeat (go_big_quiet_step ((with_reducible exact k1 _)))
  refine wpQuiet_nil ?_; intro _ hw'; obtain ⟨nq, rfl⟩ := hw'
  have HO2 := Lib.hid (HO0.out.below (hin nq))
  have HA2 := Lib.hid (HA0.out.below (hin nq))
  have HX2 := Lib.hid (HX0.out.below (hin nq))
  clear r1 r2 k1
  generalize ω nq = w1 at HO2 HA2 HX2 ⊢
  have x1 := HX2.out.row.cell
  have x2 := HX2.out.row.frozen
  have x3 := HX2.out.row.lt
  go_wp2_with fail
  refine bodyPost_ret (results_row rfl _ _ _ _ _ _ rfl (row_s2 HX2.out.row) Tryz.underlying24 rfl (by kernel_rfl)) rfl ⟨rfl, ?_⟩
  exact After.boxed H.out HO2.out HA2.out HX2.out (Nat.le_succ _) _ _

end Go.Proofs.YtcglkefaopgjeaaGreatDoor

/- Package core: Get, of operands that are no places in memory. -/
namespace Go.Proofs.YtcglkefaopgjeaaGreatDoor
set_option linter.unusedSimpArgs false
set_option linter.unusedVariables false
open Go.RowKit

/-- The boxes that Get begins with. -/
structure GetIn (C : Phys) (lv : Value) (w : World) (m : Mach) (i : Inst) (t : V) (W0 : World) : Prop where
  o : Own W0 C lv m
  a : Acc C lv w lv W0
  i : Box C lv W0 w.heap.size (instC i) 30
  t : Box C lv W0 (w.heap.size + 1) (valC t) 24
  x : Box C lv W0 (w.heap.size + 1 + 1) #[.int .u16 0, .bool false] 24
theorem getIn {C : Phys} {lv : Value} {w : World} {m : Mach} (h : Own w C lv m) (i : Inst) (t : V) : GetIn C lv w m i t (((w.alloc (.cells (instC i) 30)).alloc (.cells (valC t) 24)).alloc (.cells #[.int .u16 0, .bool false] 24)) := by
  have o1 := h.alloc (.cells (instC i) 30)
  have o2 := o1.alloc (.cells (valC t) 24)
  have x2 := Box.new o1 (valC t) 24
  have x3 := Box.new o2 #[.int .u16 0, .bool false] 24
  rw [World.size_alloc] at x2
  rw [World.size_alloc, World.size_alloc] at x3
  exact ⟨o2.alloc _, (((Acc.refl C lv w).alloc _).alloc _).alloc _, ((Box.new h _ _).alloc _).alloc _, x2.alloc _, x3⟩

set_option maxRecDepth 100000 in
set_option maxHeartbeats 1600000 in
theorem get_1 (w : World) (C : Phys) (lv : Value) (m : Mach) (h : Own w C lv m) (i : Inst) (he : (i.mod == 3) = true) (t : V) :
    Calls Tryz.prog 66 #[.pointer (some ⟨C.b, 0, none⟩), i.val, .int .i64 1, t.val] w fun e w' => e = .returned (V.val ⟨m.r.byteV i.rm, false⟩) ∧ After C lv w (m.regByteM i.rm) w' := by
  have hs := getIn h i t
  have H := Lib.hid h
  clear h
  have xi := hs.i.row.cell
  have xt := hs.t.row.cell
  go_enter Tryz.func66, Tryz.ntmps66
  go_wp2_with fail
  generalize ((w.alloc (.cells (instC i) 30)).alloc (.cells (valC t) 24)).alloc (.cells #[.int .u16 0, .bool false] 24) = W0 at *
  have HO0 := Lib.hid hs.o
  have HA0 := Lib.hid hs.a
  have HX0 := Lib.hid hs.x
  clear hs xi xt
  refine (regByte_any _ _ _ _ HO0.out i.rm).mono ?_
  rintro e w2 ⟨rfl, lv2, h2, f2, k2⟩; dsimp only
  have HO2 := Lib.hid h2
  have HA2 := Lib.hid (HA0.out.trans ⟨f2, k2⟩)
  have HX2 := Lib.hid (HX0.out.step f2 k2)
  clear h2 f2 k2
  have x1 := HX2.out.row.cell
  have x2 := HX2.out.row.frozen
  have x3 := HX2.out.row.lt
  go_wp2_with fail
  refine bodyPost_ret (results_row rfl _ _ _ _ _ _ rfl (row_s2 HX2.out.row) Tryz.underlying24 rfl (by kernel_rfl)) rfl ⟨rfl, ?_⟩
  exact After.boxed H.out HO2.out HA2.out HX2.out (by omega) _ _

set_option maxRecDepth 100000 in
set_option maxHeartbeats 1600000 in
theorem get_3 (w : World) (C : Phys) (lv : Value) (m : Mach) (h : Own w C lv m) (i : Inst)  (t : V) :
    Calls Tryz.prog 66 #[.pointer (some ⟨C.b, 0, none⟩), i.val, .int .i64 3, t.val] w fun e w' => e = .returned (V.val ⟨m.r.byteV i.reg, false⟩) ∧ After C lv w (m.regByteM i.reg) w' := by
  have hs := getIn h i t
  have H := Lib.hid h
  clear h
  have xi := hs.i.row.cell
  have xt := hs.t.row.cell
  go_enter Tryz.func66, Tryz.ntmps66
  go_wp2_with fail
  generalize ((w.alloc (.cells (instC i) 30)).alloc (.cells (valC t) 24)).alloc (.cells #[.int .u16 0, .bool false] 24) = W0 at *
  have HO0 := Lib.hid hs.o
  have HA0 := Lib.hid hs.a
  have HX0 := Lib.hid hs.x
  clear hs xi xt
  refine (regByte_any _ _ _ _ HO0.out i.reg).mono ?_
  rintro e w2 ⟨rfl, lv2, h2, f2, k2⟩; dsimp only
  have HO2 := Lib.hid h2
  have HA2 := Lib.hid (HA0.out.trans ⟨f2, k2⟩)
  have HX2 := Lib.hid (HX0.out.step f2 k2)
  clear h2 f2 k2
  have x1 := HX2.out.row.cell
  have x2 := HX2.out.row.frozen
  have x3 := HX2.out.row.lt
  go_wp2_with fail
  refine bodyPost_ret (results_row rfl _ _ _ _ _ _ rfl (row_s2 HX2.out.row) Tryz.underlying24 rfl (by kernel_rfl)) rfl ⟨rfl, ?_⟩
  exact After.boxed H.out HO2.out HA2.out HX2.out (by omega) _ _

set_option maxRecDepth 100000 in
set_option maxHeartbeats 1600000 in
theorem get_2 (w : World) (C : Phys) (lv : Value) (m : Mach) (h : Own w C lv m) (i : Inst) (he : (i.mod == 3) = true) (t : V) :
    Calls Tryz.prog 66 #[.pointer (some ⟨C.b, 0, none⟩), i.val, .int .i64 2, t.val] w fun e w' => e = .returned (V.val (m.r.get i.rm)) ∧ After C lv w m w' := by
  have hs := getIn h i t
  have H := Lib.hid h
  clear h
  have xi := hs.i.row.cell
  have xt := hs.t.row.cell
  go_enter Tryz.func66, Tryz.ntmps66
  go_wp2_with fail
  generalize ((w.alloc (.cells (instC i) 30)).alloc (.cells (valC t) 24)).alloc (.cells #[.int .u16 0, .bool false] 24) = W0 at *
  have HO0 := Lib.hid hs.o
  have HA0 := Lib.hid hs.a
  have HX0 := Lib.hid hs.x
  have sr := hs.o.sees.r
  have c3 : W0.cell? ⟨w.heap.size, 6, none⟩ = some (.int .i64 i.rm) := hs.i.row.cell 6
  clear hs xi xt
  refine range_of (W0) ?_; intro S inst ω hin hout
  have r1 := range_regs hin sr
  have r2 := range_cell hin c3
  have k1 := range_call hin hout (get_any m.r i.rm)
  clear sr c3
  refine wp_region_tail_range ω 7 (by kernel_rfl) (by kernel_rfl) (hout _ (Below.refl _ _).drew) ?_; simp only [List.take_succ_cons, List.take_zero, List.drop_succ_cons, List.drop_zero]
  repeat (go_big_quiet_step ((with_reducible exact k1 _)))
  refine wpQuiet_nil ?_; intro _ hw'; obtain ⟨nq, rfl⟩ := hw'
  have HO2 := Lib.hid (HO0.out.below (hin nq))
  have HA2 := Lib.hid (HA0.out.below (hin nq))
  have HX2 := Lib.hid (HX0.out.below (hin nq))
  clear r1 r2 k1
  generalize ω nq = w1 at HO2 HA2 HX2 ⊢
  have x1 := HX2.out.row.cell
  have x2 := HX2.out.row.frozen
  have x3 := HX2.out.row.lt
  go_wp2_with fail
  refine bodyPost_ret (results_row rfl _ _ _ _ _ _ rfl (row_s2 HX2.out.row) Tryz.underlying24 rfl (by kernel_rfl)) rfl ⟨rfl, ?_⟩
  exact After.boxed H.out HO2.out HA2.out HX2.out (by omega) _ _

set_option maxRecDepth 100000 in
set_option maxHeartbeats 1600000 in
theorem get_4 (w : World) (C : Phys) (lv : Value) (m : Mach) (h : Own w C lv m) (i : Inst)  (t : V) :
    Calls Tryz.prog 66 #[.pointer (some ⟨C.b, 0, none⟩), i.val, .int .i64 4, t.val] w fun e w' => e = .returned (V.val (m.r.get i.reg)) ∧ After C lv w m w' := by
  have hs := getIn h i t
  have H := Lib.hid h
  clear h
  have xi := hs.i.row.cell
  have xt := hs.t.row.cell
  go_enter Tryz.func66, Tryz.ntmps66
  go_wp2_with fail
  generalize ((w.alloc (.cells (instC i) 30)).alloc (.cells (valC t) 24)).alloc (.cells #[.int .u16 0, .bool false] 24) = W0 at *
  have HO0 := Lib.hid hs.o
  have HA0 := Lib.hid hs.a
  have HX0 := Lib.hid hs.x
  have sr := hs.o.sees.r
  have c3 : W0.cell? ⟨w.heap.size, 5, none⟩ = some (.int .i64 i.reg) := hs.i.row.cell 5
  clear hs xi xt
  refine range_of (W0) ?_; intro S inst ω hin hout
  have r1 := range_regs hin sr
  have r2 := range_cell hin c3
  have k1 := range_call hin hout (get_any m.r i.reg)
  clear sr c3
  refine wp_region_tail_range ω 7 (by kernel_rfl) (by kernel_rfl) (hout _ (Below.refl _ _).drew) ?_; simp only [List.take_succ_cons, List.take_zero, List.drop_succ_cons, List.drop_zero]
  repeat (go_big_quiet_step ((with_reducible exact k1 _)))
  refine wpQuiet_nil ?_; intro _ hw'; obtain ⟨nq, rfl⟩ := hw'
  have HO2 := Lib.hid (HO0.out.below (hin nq))
  have HA2 := Lib.hid (HA0.out.below (hin nq))
  have HX2 := Lib.hid (HX0.out.below (hin nq))
  clear r1 r2 k1
  generalize ω nq = w1 at HO2 HA2 HX2 ⊢
  have x1 := HX2.out.row.cell
  have x2 := HX2.out.row.frozen
  have x3 := HX2.out.row.lt
  go_wp2_with fail
  refine bodyPost_ret (results_row rfl _ _ _ _ _ _ rfl (row_s2 HX2.out.row) Tryz.underlying24 rfl (by kernel_rfl)) rfl ⟨rfl, ?_⟩
  exact After.boxed H.out HO2.out HA2.out HX2.out (by omega) _ _

set_option maxRecDepth 100000 in
set_option maxHeartbeats 1600000 in
theorem get_5 (w : World) (C : Phys) (lv : Value) (m : Mach) (h : Own w C lv m) (i : Inst)  (t : V) :
    Calls Tryz.prog 66 #[.pointer (some ⟨C.b, 0, none⟩), i.val, .int .i64 5, t.val] w fun e w' => e = .returned (V.val (m.r.seg i.reg)) ∧ After C lv w m w' := by
  have hs := getIn h i t
  have H := Lib.hid h
  clear h
  have xi := hs.i.row.cell
  have xt := hs.t.row.cell
  go_enter Tryz.func66, Tryz.ntmps66
  go_wp2_with fail
  generalize ((w.alloc (.cells (instC i) 30)).alloc (.cells (valC t) 24)).alloc (.cells #[.int .u16 0, .bool false] 24) = W0 at *
  have HO0 := Lib.hid hs.o
  have HA0 := Lib.hid hs.a
  have HX0 := Lib.hid hs.x
  have sr := hs.o.sees.r
  have c3 : W0.cell? ⟨w.heap.size, 5, none⟩ = some (.int .i64 i.reg) := hs.i.row.cell 5
  clear hs xi xt
  refine range_of (W0) ?_; intro S inst ω hin hout
  have r1 := range_regs hin sr
  have r2 := range_cell hin c3
  have k1 := range_call hin hout (seg_any m.r i.reg)
  clear sr c3
  refine wp_region_tail_range ω 7 (by kernel_rfl) (by kernel_rfl) (hout _ (Below.refl _ _).drew) ?_; simp only [List.take_succ_cons, List.take_zero, List.drop_succ_cons, List.drop_zero]
  repeat (go_big_quiet_step ((with_reducible exact k1 _)))
  refine wpQuiet_nil ?_; intro _ hw'; obtain ⟨nq, rfl⟩ := hw'
  have HO2 := Lib.hid (HO0.out.below (hin nq))
  have HA2 := Lib.hid (HA0.out.below (hin nq))
  have HX2 := Lib.hid (HX0.out.below (hin nq))
  clear r1 r2 k1
  generalize ω nq = w1 at HO2 HA2 HX2 ⊢
  have x1 := HX2.out.row.cell
  have x2 := HX2.out.row.frozen
  have x3 := HX2.out.row.lt
  go_wp2_with fail
  refine bodyPost_ret (results_row rfl _ _ _ _ _ _ rfl (row_s2 HX2.out.row) Tryz.underlying24 rfl (by kernel_rfl)) rfl ⟨rfl, ?_⟩
  exact After.boxed H.out HO2.out HA2.out HX2.out (by omega) _ _

set_option maxRecDepth 100000 in
set_option maxHeartbeats 1600000 in
theorem get_6 (w : World) (C : Phys) (lv : Value) (m : Mach) (h : Own w C lv m) (i : Inst)  (t : V) :
    Calls Tryz.prog 66 #[.pointer (some ⟨C.b, 0, none⟩), i.val, .int .i64 6, t.val] w fun e w' => e = .returned (V.val t) ∧ After C lv w m w' := by
  have hs := getIn h i t
  have H := Lib.hid h
  clear h
  clear hs
  go_enter Tryz.func66, Tryz.ntmps66
  go_wp2_with fail
  refine bodyPost_ret (results_row rfl _ _ _ _ _ _ rfl (Row.new' (by simp)) Tryz.underlying24 rfl (by kernel_rfl)) rfl ⟨rfl, ?_⟩
  exact After.mk (((H.out.alloc _).alloc _).alloc _) ((((Acc.refl C lv w).alloc _).alloc _).alloc _)

set_option maxRecDepth 100000 in
set_option maxHeartbeats 1600000 in
theorem get_7 (w : World) (C : Phys) (lv : Value) (m : Mach) (h : Own w C lv m) (i : Inst)  (t : V) :
    Calls Tryz.prog 66 #[.pointer (some ⟨C.b, 0, none⟩), i.val, .int .i64 7, t.val] w fun e w' => e = .returned (V.val t) ∧ After C lv w m w' := by
  have hs := getIn h i t
  have H := Lib.hid h
  clear h
  clear hs
  go_enter Tryz.func66, Tryz.ntmps66
  go_wp2_with fail
  refine bodyPost_ret (results_row rfl _ _ _ _ _ _ rfl (Row.new' (by simp)) Tryz.underlying24 rfl (by kernel_rfl)) rfl ⟨rfl, ?_⟩
  exact After.mk (((H.out.alloc _).alloc _).alloc _) ((((Acc.refl C lv w).alloc _).alloc _).alloc _)

set_option maxRecDepth 100000 in
set_option maxHeartbeats 1600000 in
theorem get_8 (w : World) (C : Phys) (lv : Value) (m : Mach) (h : Own w C lv m) (i : Inst)  (t : V) :
    Calls Tryz.prog 66 #[.pointer (some ⟨C.b, 0, none⟩), i.val, .int .i64 8, t.val] w fun e w' => e = .returned (V.val t) ∧ After C lv w m w' := by
  have hs := getIn h i t
  have H := Lib.hid h
  clear h
  clear hs
  go_enter Tryz.func66, Tryz.ntmps66
  go_wp2_with fail
  refine bodyPost_ret (results_row rfl _ _ _ _ _ _ rfl (Row.new' (by simp)) Tryz.underlying24 rfl (by kernel_rfl)) rfl ⟨rfl, ?_⟩
  exact After.mk (((H.out.alloc _).alloc _).alloc _) ((((Acc.refl C lv w).alloc _).alloc _).alloc _)

set_option maxRecDepth 100000 in
set_option maxHeartbeats 1600000 in
theorem get_14 (w : World) (C : Phys) (lv : Value) (m : Mach) (h : Own w C lv m) (i : Inst) (h0 : 0 ≤ i.op) (h1 : i.op ≤ 255) (t : V) :
    Calls Tryz.prog 66 #[.pointer (some ⟨C.b, 0, none⟩), i.val, .int .i64 14, t.val] w fun e w' => e = .returned (V.val ⟨m.r.byteV 0, false⟩) ∧ After C lv w (m.regByteM 0) w' := by
  have hs := getIn h i t
  have H := Lib.hid h
  clear h
  have xi := hs.i.row.cell
  have xt := hs.t.row.cell
  go_enter Tryz.func66, Tryz.ntmps66
  go_wp2_with fail
  generalize ((w.alloc (.cells (instC i) 30)).alloc (.cells (valC t) 24)).alloc (.cells #[.int .u16 0, .bool false] 24) = W0 at *
  have HO0 := Lib.hid hs.o
  have HA0 := Lib.hid hs.a
  have HX0 := Lib.hid hs.x
  clear hs xi xt
  refine (small_14 _ _ _ _ HO0.out i h0 h1).mono ?_
  rintro e w2 ⟨rfl, lv2, h2, f2, k2⟩; dsimp only
  have HO2 := Lib.hid h2
  have HA2 := Lib.hid (HA0.out.trans ⟨f2, k2⟩)
  have HX2 := Lib.hid (HX0.out.step f2 k2)
  clear h2 f2 k2
  have x1 := HX2.out.row.cell
  have x2 := HX2.out.row.frozen
  have x3 := HX2.out.row.lt
  go_wp2_with fail
  refine bodyPost_ret (results_row rfl _ _ _ _ _ _ rfl (row_s2 HX2.out.row) Tryz.underlying24 rfl (by kernel_rfl)) rfl ⟨rfl, ?_⟩
  exact After.boxed H.out HO2.out HA2.out HX2.out (by omega) _ _

set_option maxRecDepth 100000 in
set_option maxHeartbeats 1600000 in
theorem get_15 (w : World) (C : Phys) (lv : Value) (m : Mach) (h : Own w C lv m) (i : Inst) (h0 : 0 ≤ i.op) (h1 : i.op ≤ 255) (t : V) :
    Calls Tryz.prog 66 #[.pointer (some ⟨C.b, 0, none⟩), i.val, .int .i64 15, t.val] w fun e w' => e = .returned (V.val ⟨m.r.byteV 1, false⟩) ∧ After C lv w (m.regByteM 1) w' := by
  have hs := getIn h i t
  have H := Lib.hid h
  clear h
  have xi := hs.i.row.cell
  have xt := hs.t.row.cell
  go_enter Tryz.func66, Tryz.ntmps66
  go_wp2_with fail
  generalize ((w.alloc (.cells (instC i) 30)).alloc (.cells (valC t) 24)).alloc (.cells #[.int .u16 0, .bool false] 24) = W0 at *
  have HO0 := Lib.hid hs.o
  have HA0 := Lib.hid hs.a
  have HX0 := Lib.hid hs.x
  clear hs xi xt
  refine (small_15 _ _ _ _ HO0.out i h0 h1).mono ?_
  rintro e w2 ⟨rfl, lv2, h2, f2, k2⟩; dsimp only
  have HO2 := Lib.hid h2
  have HA2 := Lib.hid (HA0.out.trans ⟨f2, k2⟩)
  have HX2 := Lib.hid (HX0.out.step f2 k2)
  clear h2 f2 k2
  have x1 := HX2.out.row.cell
  have x2 := HX2.out.row.frozen
  have x3 := HX2.out.row.lt
  go_wp2_with fail
  refine bodyPost_ret (results_row rfl _ _ _ _ _ _ rfl (row_s2 HX2.out.row) Tryz.underlying24 rfl (by kernel_rfl)) rfl ⟨rfl, ?_⟩
  exact After.boxed H.out HO2.out HA2.out HX2.out (by omega) _ _

set_option maxRecDepth 100000 in
set_option maxHeartbeats 1600000 in
theorem get_16 (w : World) (C : Phys) (lv : Value) (m : Mach) (h : Own w C lv m) (i : Inst) (h0 : 0 ≤ i.op) (h1 : i.op ≤ 255) (t : V) :
    Calls Tryz.prog 66 #[.pointer (some ⟨C.b, 0, none⟩), i.val, .int .i64 16, t.val] w fun e w' => e = .returned (V.val m.r.g0) ∧ After C lv w m w' := by
  have hs := getIn h i t
  have H := Lib.hid h
  clear h
  have xi := hs.i.row.cell
  have xt := hs.t.row.cell
  go_enter Tryz.func66, Tryz.ntmps66
  go_wp2_with fail
  generalize ((w.alloc (.cells (instC i) 30)).alloc (.cells (valC t) 24)).alloc (.cells #[.int .u16 0, .bool false] 24) = W0 at *
  have HO0 := Lib.hid hs.o
  have HA0 := Lib.hid hs.a
  have HX0 := Lib.hid hs.x
  clear hs xi xt
  refine (small_16 _ _ _ _ HO0.out i h0 h1).mono ?_
  rintro e w2 ⟨rfl, lv2, h2, f2, k2⟩; dsimp only
  have HO2 := Lib.hid h2
  have HA2 := Lib.hid (HA0.out.trans ⟨f2, k2⟩)
  have HX2 := Lib.hid (HX0.out.step f2 k2)
  clear h2 f2 k2
  have x1 := HX2.out.row.cell
  have x2 := HX2.out.row.frozen
  have x3 := HX2.out.row.lt
  go_wp2_with fail
  refine bodyPost_ret (results_row rfl _ _ _ _ _ _ rfl (row_s2 HX2.out.row) Tryz.underlying24 rfl (by kernel_rfl)) rfl ⟨rfl, ?_⟩
  exact After.boxed H.out HO2.out HA2.out HX2.out (by omega) _ _

set_option maxRecDepth 100000 in
set_option maxHeartbeats 1600000 in
theorem get_17 (w : World) (C : Phys) (lv : Value) (m : Mach) (h : Own w C lv m) (i : Inst) (h0 : 0 ≤ i.op) (h1 : i.op ≤ 255) (t : V) :
    Calls Tryz.prog 66 #[.pointer (some ⟨C.b, 0, none⟩), i.val, .int .i64 17, t.val] w fun e w' => e = .returned (V.val m.r.g2) ∧ After C lv w m w' := by
  have hs := getIn h i t
  have H := Lib.hid h
  clear h
  have xi := hs.i.row.cell
  have xt := hs.t.row.cell
  go_enter Tryz.func66, Tryz.ntmps66
  go_wp2_with fail
  generalize ((w.alloc (.cells (instC i) 30)).alloc (.cells (valC t) 24)).alloc (.cells #[.int .u16 0, .bool false] 24) = W0 at *
  have HO0 := Lib.hid hs.o
  have HA0 := Lib.hid hs.a
  have HX0 := Lib.hid hs.x
  clear hs xi xt
  refine (small_17 _ _ _ _ HO0.out i h0 h1).mono ?_
  rintro e w2 ⟨rfl, lv2, h2, f2, k2⟩; dsimp only
  have HO2 := Lib.hid h2
  have HA2 := Lib.hid (HA0.out.trans ⟨f2, k2⟩)
  have HX2 := Lib.hid (HX0.out.step f2 k2)
  clear h2 f2 k2
  have x1 := HX2.out.row.cell
  have x2 := HX2.out.row.frozen
  have x3 := HX2.out.row.lt
  go_wp2_with fail
  refine bodyPost_ret (results_row rfl _ _ _ _ _ _ rfl (row_s2 HX2.out.row) Tryz.underlying24 rfl (by kernel_rfl)) rfl ⟨rfl, ?_⟩
  exact After.boxed H.out HO2.out HA2.out HX2.out (by omega) _ _

set_option maxRecDepth 100000 in
set_option maxHeartbeats 1600000 in
theorem get_18 (w : World) (C : Phys) (lv : Value) (m : Mach) (h : Own w C lv m) (i : Inst) (h0 : 0 ≤ i.op) (h1 : i.op ≤ 255) (t : V) :
    Calls Tryz.prog 66 #[.pointer (some ⟨C.b, 0, none⟩), i.val, .int .i64 18, t.val] w fun e w' => e = .returned (V.val ⟨1, false⟩) ∧ After C lv w m w' := by
  have hs := getIn h i t
  have H := Lib.hid h
  clear h
  have xi := hs.i.row.cell
  have xt := hs.t.row.cell
  go_enter Tryz.func66, Tryz.ntmps66
  go_wp2_with fail
  generalize ((w.alloc (.cells (instC i) 30)).alloc (.cells (valC t) 24)).alloc (.cells #[.int .u16 0, .bool false] 24) = W0 at *
  have HO0 := Lib.hid hs.o
  have HA0 := Lib.hid hs.a
  have HX0 := Lib.hid hs.x
  clear hs xi xt
  refine (small_18 _ _ _ _ HO0.out i h0 h1).mono ?_
  rintro e w2 ⟨rfl, lv2, h2, f2, k2⟩; dsimp only
  have HO2 := Lib.hid h2
  have HA2 := Lib.hid (HA0.out.trans ⟨f2, k2⟩)
  have HX2 := Lib.hid (HX0.out.step f2 k2)
  clear h2 f2 k2
  have x1 := HX2.out.row.cell
  have x2 := HX2.out.row.frozen
  have x3 := HX2.out.row.lt
  go_wp2_with fail
  refine bodyPost_ret (results_row rfl _ _ _ _ _ _ rfl (row_s2 HX2.out.row) Tryz.underlying24 rfl (by kernel_rfl)) rfl ⟨rfl, ?_⟩
  exact After.boxed H.out HO2.out HA2.out HX2.out (by omega) _ _

set_option maxRecDepth 100000 in
set_option maxHeartbeats 1600000 in
theorem get_24 (w : World) (C : Phys) (lv : Value) (m : Mach) (h : Own w C lv m) (i : Inst) (h0 : 0 ≤ i.op) (h1 : i.op ≤ 255) (t : V) :
    Calls Tryz.prog 66 #[.pointer (some ⟨C.b, 0, none⟩), i.val, .int .i64 24, t.val] w fun e w' => e = .returned (V.val ⟨3, false⟩) ∧ After C lv w m w' := by
  have hs := getIn h i t
  have H := Lib.hid h
  clear h
  have xi := hs.i.row.cell
  have xt := hs.t.row.cell
  go_enter Tryz.func66, Tryz.ntmps66
  go_wp2_with fail
  generalize ((w.alloc (.cells (instC i) 30)).alloc (.cells (valC t) 24)).alloc (.cells #[.int .u16 0, .bool false] 24) = W0 at *
  have HO0 := Lib.hid hs.o
  have HA0 := Lib.hid hs.a
  have HX0 := Lib.hid hs.x
  clear hs xi xt
  refine (small_24 _ _ _ _ HO0.out i h0 h1).mono ?_
  rintro e w2 ⟨rfl, lv2, h2, f2, k2⟩; dsimp only
  have HO2 := Lib.hid h2
  have HA2 := Lib.hid (HA0.out.trans ⟨f2, k2⟩)
  have HX2 := Lib.hid (HX0.out.step f2 k2)
  clear h2 f2 k2
  have x1 := HX2.out.row.cell
  have x2 := HX2.out.row.frozen
  have x3 := HX2.out.row.lt
  go_wp2_with fail
  refine bodyPost_ret (results_row rfl _ _ _ _ _ _ rfl (row_s2 HX2.out.row) Tryz.underlying24 rfl (by kernel_rfl)) rfl ⟨rfl, ?_⟩
  exact After.boxed H.out HO2.out HA2.out HX2.out (by omega) _ _

set_option maxRecDepth 100000 in
set_option maxHeartbeats 1600000 in
theorem get_21 (w : World) (C : Phys) (lv : Value) (m : Mach) (h : Own w C lv m) (i : Inst) (h0 : 0 ≤ i.op) (h1 : i.op ≤ 255) (t : V) :
    Calls Tryz.prog 66 #[.pointer (some ⟨C.b, 0, none⟩), i.val, .int .i64 21, t.val] w fun e w' => e = .returned (V.val ⟨m.r.byteV (i.op % 8), false⟩) ∧ After C lv w (m.regByteM (i.op % 8)) w' := by
  have hs := getIn h i t
  have H := Lib.hid h
  clear h
  have xi := hs.i.row.cell
  have xt := hs.t.row.cell
  go_enter Tryz.func66, Tryz.ntmps66
  go_wp2_with fail
  generalize ((w.alloc (.cells (instC i) 30)).alloc (.cells (valC t) 24)).alloc (.cells #[.int .u16 0, .bool false] 24) = W0 at *
  have HO0 := Lib.hid hs.o
  have HA0 := Lib.hid hs.a
  have HX0 := Lib.hid hs.x
  clear hs xi xt
  refine (small_21 _ _ _ _ HO0.out i h0 h1).mono ?_
  rintro e w2 ⟨rfl, lv2, h2, f2, k2⟩; dsimp only
  have HO2 := Lib.hid h2
  have HA2 := Lib.hid (HA0.out.trans ⟨f2, k2⟩)
  have HX2 := Lib.hid (HX0.out.step f2 k2)
  clear h2 f2 k2
  have x1 := HX2.out.row.cell
  have x2 := HX2.out.row.frozen
  have x3 := HX2.out.row.lt
  go_wp2_with fail
  refine bodyPost_ret (results_row rfl _ _ _ _ _ _ rfl (row_s2 HX2.out.row) Tryz.underlying24 rfl (by kernel_rfl)) rfl ⟨rfl, ?_⟩
  exact After.boxed H.out HO2.out HA2.out HX2.out (by omega) _ _

set_option maxRecDepth 100000 in
set_option maxHeartbeats 1600000 in
theorem get_22 (w : World) (C : Phys) (lv : Value) (m : Mach) (h : Own w C lv m) (i : Inst) (h0 : 0 ≤ i.op) (h1 : i.op ≤ 255) (t : V) :
    Calls Tryz.prog 66 #[.pointer (some ⟨C.b, 0, none⟩), i.val, .int .i64 22, t.val] w fun e w' => e = .returned (V.val (m.r.get (i.op % 8))) ∧ After C lv w m w' := by
  have hs := getIn h i t
  have H := Lib.hid h
  clear h
  have xi := hs.i.row.cell
  have xt := hs.t.row.cell
  go_enter Tryz.func66, Tryz.ntmps66
  go_wp2_with fail
  generalize ((w.alloc (.cells (instC i) 30)).alloc (.cells (valC t) 24)).alloc (.cells #[.int .u16 0, .bool false] 24) = W0 at *
  have HO0 := Lib.hid hs.o
  have HA0 := Lib.hid hs.a
  have HX0 := Lib.hid hs.x
  clear hs xi xt
  refine (small_22 _ _ _ _ HO0.out i h0 h1).mono ?_
  rintro e w2 ⟨rfl, lv2, h2, f2, k2⟩; dsimp only
  have HO2 := Lib.hid h2
  have HA2 := Lib.hid (HA0.out.trans ⟨f2, k2⟩)
  have HX2 := Lib.hid (HX0.out.step f2 k2)
  clear h2 f2 k2
  have x1 := HX2.out.row.cell
  have x2 := HX2.out.row.frozen
  have x3 := HX2.out.row.lt
  go_wp2_with fail
  refine bodyPost_ret (results_row rfl _ _ _ _ _ _ rfl (row_s2 HX2.out.row) Tryz.underlying24 rfl (by kernel_rfl)) rfl ⟨rfl, ?_⟩
  exact After.boxed H.out HO2.out HA2.out HX2.out (by omega) _ _

set_option maxRecDepth 100000 in
set_option maxHeartbeats 1600000 in
theorem get_23 (w : World) (C : Phys) (lv : Value) (m : Mach) (h : Own w C lv m) (i : Inst) (h0 : 0 ≤ i.op) (h1 : i.op ≤ 255) (t : V) :
    Calls Tryz.prog 66 #[.pointer (some ⟨C.b, 0, none⟩), i.val, .int .i64 23, t.val] w fun e w' => e = .returned (V.val (m.r.seg (i.op / 8 % 4))) ∧ After C lv w m w' := by
  have hs := getIn h i t
  have H := Lib.hid h
  clear h
  have xi := hs.i.row.cell
  have xt := hs.t.row.cell
  go_enter Tryz.func66, Tryz.ntmps66
  go_wp2_with fail
  generalize ((w.alloc (.cells (instC i) 30)).alloc (.cells (valC t) 24)).alloc (.cells #[.int .u16 0, .bool false] 24) = W0 at *
  have HO0 := Lib.hid hs.o
  have HA0 := Lib.hid hs.a
  have HX0 := Lib.hid hs.x
  clear hs xi xt
  refine (small_23 _ _ _ _ HO0.out i h0 h1).mono ?_
  rintro e w2 ⟨rfl, lv2, h2, f2, k2⟩; dsimp only
  have HO2 := Lib.hid h2
  have HA2 := Lib.hid (HA0.out.trans ⟨f2, k2⟩)
  have HX2 := Lib.hid (HX0.out.step f2 k2)
  clear h2 f2 k2
  have x1 := HX2.out.row.cell
  have x2 := HX2.out.row.frozen
  have x3 := HX2.out.row.lt
  go_wp2_with fail
  refine bodyPost_ret (results_row rfl _ _ _ _ _ _ rfl (row_s2 HX2.out.row) Tryz.underlying24 rfl (by kernel_rfl)) rfl ⟨rfl, ?_⟩
  exact After.boxed H.out HO2.out HA2.out HX2.out (by omega) _ _

/-- An operand's value, of one that is no place in memory. -/
theorem getBare_any (w : World) (C : Phys) (lv : Value) (m : Mach) (h : Own w C lv m) (i : Inst) (h0 : 0 ≤ i.op) (h1 : i.op ≤ 255) (op : Int) (ho : (1 ≤ op ∧ op ≤ 8) ∨ (14 ≤ op ∧ op ≤ 18) ∨ (21 ≤ op ∧ op ≤ 24)) (hm : op ≤ 2 → i.mod = 3) (t : V) :
    Calls Tryz.prog 66 #[.pointer (some ⟨C.b, 0, none⟩), i.val, .int .i64 op, t.val] w fun e w' => e = .returned (m.getV i op t).val ∧ After C lv w (m.getM i op) w' := by
  have hc : op = 1 ∨ op = 2 ∨ op = 3 ∨ op = 4 ∨ op = 5 ∨ op = 6 ∨ op = 7 ∨ op = 8 ∨ op = 14 ∨ op = 15 ∨ op = 16 ∨ op = 17 ∨ op = 18 ∨ op = 21 ∨ op = 22 ∨ op = 23 ∨ op = 24 := by omega
  rcases hc with rfl | rfl | rfl | rfl | rfl | rfl | rfl | rfl | rfl | rfl | rfl | rfl | rfl | rfl | rfl | rfl | rfl
  · have e := hm (by decide)
    rw [show m.getV i 1 t = ⟨m.r.byteV i.rm, false⟩ from if_pos e, show m.getM i 1 = m.regByteM i.rm from if_pos e]
    exact get_1 w C lv m h i (by rw [e]; rfl) t
  · have e := hm (by decide)
    rw [show m.getV i 2 t = m.r.get i.rm from if_pos e, show m.getM i 2 = m from if_pos e]
    exact get_2 w C lv m h i (by rw [e]; rfl) t
  · exact get_3 w C lv m h i t
  · exact get_4 w C lv m h i t
  · exact get_5 w C lv m h i t
  · exact get_6 w C lv m h i t
  · exact get_7 w C lv m h i t
  · exact get_8 w C lv m h i t
  · exact get_14 w C lv m h i h0 h1 t
  · exact get_15 w C lv m h i h0 h1 t
  · exact get_16 w C lv m h i h0 h1 t
  · exact get_17 w C lv m h i h0 h1 t
  · exact get_18 w C lv m h i h0 h1 t
  · exact get_21 w C lv m h i h0 h1 t
  · exact get_22 w C lv m h i h0 h1 t
  · exact get_23 w C lv m h i h0 h1 t
  · exact get_24 w C lv m h i h0 h1 t
end Go.Proofs.YtcglkefaopgjeaaGreatDoor

/- Package core: Put, of operands that are no places in memory. -/
namespace Go.Proofs.YtcglkefaopgjeaaGreatDoor
set_option linter.unusedSimpArgs false
set_option linter.unusedVariables false
open Go.RowKit

/-- The boxes that Put begins with. -/
structure PutIn (C : Phys) (lv : Value) (w : World) (m : Mach) (i : Inst) (t : V) (W0 : World) : Prop where
  o : Own W0 C lv m
  a : Acc C lv w lv W0
  i : Box C lv W0 w.heap.size (instC i) 30
  t : Box C lv W0 (w.heap.size + 1) (valC t) 24
theorem putIn {C : Phys} {lv : Value} {w : World} {m : Mach} (h : Own w C lv m) (i : Inst) (t : V) : PutIn C lv w m i t ((w.alloc (.cells (instC i) 30)).alloc (.cells (valC t) 24)) := by
  have o1 := h.alloc (.cells (instC i) 30)
  have x2 := Box.new o1 (valC t) 24
  rw [World.size_alloc] at x2
  exact ⟨o1.alloc _, ((Acc.refl C lv w).alloc _).alloc _, (Box.new h _ _).alloc _, x2⟩

set_option maxRecDepth 100000 in
set_option maxHeartbeats 1600000 in
theorem put_1 (w : World) (C : Phys) (lv : Value) (m : Mach) (h : Own w C lv m) (i : Inst) (he : (i.mod == 3) = true) (t : V) (ht : t.wf) :
    Calls Tryz.prog 179 #[.pointer (some ⟨C.b, 0, none⟩), i.val, .int .i64 1, t.val] w fun e w' => e = .returned (.tuple #[]) ∧ After C lv w (m.setRegByte i.rm t.v) w' := by
  have hs := putIn h i t
  have hwf := h.wf.r
  clear h
  have xi := hs.i.row.cell
  have xt := hs.t.row.cell
  go_enter Tryz.func179, Tryz.ntmps179
  go_wp2_with fail
  generalize (w.alloc (.cells (instC i) 30)).alloc (.cells (valC t) 24) = W0 at *
  have HO0 := Lib.hid hs.o
  have HA0 := Lib.hid hs.a
  clear hs xi xt
  refine (setByte_any _ _ _ _ HO0.out i.rm t ht).mono ?_
  rintro e w2 ⟨rfl, lv2, h2, f2, k2⟩; dsimp only
  have HO2 := Lib.hid h2
  have HA2 := Lib.hid (HA0.out.trans ⟨f2, k2⟩)
  clear h2 f2 k2
  go_wp2_with fail
  (first | go_end0 | (((try simp only [Exit.inBlock, Exit.then]); refine bodyPost_ret (results_none rfl _ _ _) rfl ?_)))
  exact ⟨rfl, After.mk HO2.out HA2.out⟩

set_option maxRecDepth 100000 in
set_option maxHeartbeats 1600000 in
theorem put_3 (w : World) (C : Phys) (lv : Value) (m : Mach) (h : Own w C lv m) (i : Inst)  (t : V) (ht : t.wf) :
    Calls Tryz.prog 179 #[.pointer (some ⟨C.b, 0, none⟩), i.val, .int .i64 3, t.val] w fun e w' => e = .returned (.tuple #[]) ∧ After C lv w (m.setRegByte i.reg t.v) w' := by
  have hs := putIn h i t
  have hwf := h.wf.r
  clear h
  have xi := hs.i.row.cell
  have xt := hs.t.row.cell
  go_enter Tryz.func179, Tryz.ntmps179
  go_wp2_with fail
  generalize (w.alloc (.cells (instC i) 30)).alloc (.cells (valC t) 24) = W0 at *
  have HO0 := Lib.hid hs.o
  have HA0 := Lib.hid hs.a
  clear hs xi xt
  refine (setByte_any _ _ _ _ HO0.out i.reg t ht).mono ?_
  rintro e w2 ⟨rfl, lv2, h2, f2, k2⟩; dsimp only
  have HO2 := Lib.hid h2
  have HA2 := Lib.hid (HA0.out.trans ⟨f2, k2⟩)
  clear h2 f2 k2
  go_wp2_with fail
  (first | go_end0 | (((try simp only [Exit.inBlock, Exit.then]); refine bodyPost_ret (results_none rfl _ _ _) rfl ?_)))
  exact ⟨rfl, After.mk HO2.out HA2.out⟩

set_option maxRecDepth 100000 in
set_option maxHeartbeats 1600000 in
theorem put_14 (w : World) (C : Phys) (lv : Value) (m : Mach) (h : Own w C lv m) (i : Inst)  (t : V) (ht : t.wf) :
    Calls Tryz.prog 179 #[.pointer (some ⟨C.b, 0, none⟩), i.val, .int .i64 14, t.val] w fun e w' => e = .returned (.tuple #[]) ∧ After C lv w (m.setRegByte 0 t.v) w' := by
  have hs := putIn h i t
  have hwf := h.wf.r
  clear h
  have xi := hs.i.row.cell
  have xt := hs.t.row.cell
  go_enter Tryz.func179, Tryz.ntmps179
  go_wp2_with fail
  generalize (w.alloc (.cells (instC i) 30)).alloc (.cells (valC t) 24) = W0 at *
  have HO0 := Lib.hid hs.o
  have HA0 := Lib.hid hs.a
  clear hs xi xt
  refine (setByte_any _ _ _ _ HO0.out 0 t ht).mono ?_
  rintro e w2 ⟨rfl, lv2, h2, f2, k2⟩; dsimp only
  have HO2 := Lib.hid h2
  have HA2 := Lib.hid (HA0.out.trans ⟨f2, k2⟩)
  clear h2 f2 k2
  go_wp2_with fail
  (first | go_end0 | (((try simp only [Exit.inBlock, Exit.then]); refine bodyPost_ret (results_none rfl _ _ _) rfl ?_)))
  exact ⟨rfl, After.mk HO2.out HA2.out⟩

set_option maxRecDepth 100000 in
set_option maxHeartbeats 1600000 in
theorem put_21 (w : World) (C : Phys) (lv : Value) (m : Mach) (h : Own w C lv m) (i : Inst) (h0 : 0 ≤ i.op) (h1 : i.op ≤ 255) (t : V) (ht : t.wf) :
    Calls Tryz.prog 179 #[.pointer (some ⟨C.b, 0, none⟩), i.val, .int .i64 21, t.val] w fun e w' => e = .returned (.tuple #[]) ∧ After C lv w (m.setRegByte (i.op % 8) t.v) w' := by
  have hs := putIn h i t
  have hwf := h.wf.r
  clear h
  have e7 := u8_and7 i.op h0 (by omega)
  have xi := hs.i.row.cell
  have xt := hs.t.row.cell
  go_enter Tryz.func179, Tryz.ntmps179
  go_wp2_with fail
  generalize (w.alloc (.cells (instC i) 30)).alloc (.cells (valC t) 24) = W0 at *
  have HO0 := Lib.hid hs.o
  have HA0 := Lib.hid hs.a
  clear hs xi xt
  refine (setByte_any _ _ _ _ HO0.out (i.op % 8) t ht).mono ?_
  rintro e w2 ⟨rfl, lv2, h2, f2, k2⟩; dsimp only
  have HO2 := Lib.hid h2
  have HA2 := Lib.hid (HA0.out.trans ⟨f2, k2⟩)
  clear h2 f2 k2
  go_wp2_with fail
  (first | go_end0 | (((try simp only [Exit.inBlock, Exit.then]); refine bodyPost_ret (results_none rfl _ _ _) rfl ?_)))
  exact ⟨rfl, After.mk HO2.out HA2.out⟩

set_option maxRecDepth 100000 in
set_option maxHeartbeats 1600000 in
theorem put_2 (w : World) (C : Phys) (lv : Value) (m : Mach) (h : Own w C lv m) (i : Inst) (he : (i.mod == 3) = true) (t : V) (ht : t.wf) :
    Calls Tryz.prog 179 #[.pointer (some ⟨C.b, 0, none⟩), i.val, .int .i64 2, t.val] w fun e w' => e = .returned (.tuple #[]) ∧ After C lv w (m.setR (m.r.put i.rm t)) w' := by
  have hs := putIn h i t
  have hwf := h.wf.r
  clear h
  have xi := hs.i.row.cell
  have xt := hs.t.row.cell
  go_enter Tryz.func179, Tryz.ntmps179
  go_wp2_with fail
  generalize (w.alloc (.cells (instC i) 30)).alloc (.cells (valC t) 24) = W0 at *
  have HO0 := Lib.hid hs.o
  have HA0 := Lib.hid hs.a
  have HWF := Lib.hid (Regs.put_wf hwf (i.rm) ht)
  have sr := hs.o.sees.r
  have c3 : W0.cell? ⟨w.heap.size, 6, none⟩ = some (.int .i64 i.rm) := hs.i.row.cell 6
  have c4 : W0.cell? ⟨w.heap.size + 1, 0, none⟩ = some (.int .u16 t.v) := hs.t.row.cell 0
  have c5 : W0.cell? ⟨w.heap.size + 1, 1, none⟩ = some (.bool t.t) := hs.t.row.cell 1
  clear hs xi xt hwf
  refine range_of (W0) ?_; intro S inst ω hin hout
  have r1 := range_regs hin sr
  have r2 := range_cell hin c3
  have r3 := range_cell hin c4
  have r4 := range_cell hin c5
  have k1 := range_call hin hout (put_any m.r i.rm t)
  clear sr c4 c5
  refine wp_region_tail_range ω 11 (by kernel_rfl) (by kernel_rfl) (hout _ (Below.refl _ _).drew) ?_; simp only [List.take_succ_cons, List.take_zero, List.drop_succ_cons, List.drop_zero]
  repeat (go_big_quiet_step ((with_reducible exact k1 _)))
  refine wpQuiet_nil ?_; intro _ hw'; obtain ⟨nq, rfl⟩ := hw'
  have HO2 := Lib.hid (HO0.out.below (hin nq))
  have HA2 := Lib.hid (HA0.out.below (hin nq))
  clear r1 r3 r4 k1
  generalize ω nq = w1 at HO2 HA2 ⊢
  have sc := HO2.out.sees.c; have sf := HO2.out.sees.f; have sr := HO2.out.sees.r; have ss := HO2.out.sees.s; have sl := HO2.out.sees.l
  go_wp2_with fail
  (first | go_end0 | (((try simp only [Exit.inBlock, Exit.then]); refine bodyPost_ret (results_none rfl _ _ _) rfl ?_)))
  exact ⟨rfl, After.mk (HO2.out.putR _ HWF.out) (HA2.out.putR _)⟩

set_option maxRecDepth 100000 in
set_option maxHeartbeats 1600000 in
theorem put_4 (w : World) (C : Phys) (lv : Value) (m : Mach) (h : Own w C lv m) (i : Inst)  (t : V) (ht : t.wf) :
    Calls Tryz.prog 179 #[.pointer (some ⟨C.b, 0, none⟩), i.val, .int .i64 4, t.val] w fun e w' => e = .returned (.tuple #[]) ∧ After C lv w (m.setR (m.r.put i.reg t)) w' := by
  have hs := putIn h i t
  have hwf := h.wf.r
  clear h
  have xi := hs.i.row.cell
  have xt := hs.t.row.cell
  go_enter Tryz.func179, Tryz.ntmps179
  go_wp2_with fail
  generalize (w.alloc (.cells (instC i) 30)).alloc (.cells (valC t) 24) = W0 at *
  have HO0 := Lib.hid hs.o
  have HA0 := Lib.hid hs.a
  have HWF := Lib.hid (Regs.put_wf hwf (i.reg) ht)
  have sr := hs.o.sees.r
  have c3 : W0.cell? ⟨w.heap.size, 5, none⟩ = some (.int .i64 i.reg) := hs.i.row.cell 5
  have c4 : W0.cell? ⟨w.heap.size + 1, 0, none⟩ = some (.int .u16 t.v) := hs.t.row.cell 0
  have c5 : W0.cell? ⟨w.heap.size + 1, 1, none⟩ = some (.bool t.t) := hs.t.row.cell 1
  clear hs xi xt hwf
  refine range_of (W0) ?_; intro S inst ω hin hout
  have r1 := range_regs hin sr
  have r2 := range_cell hin c3
  have r3 := range_cell hin c4
  have r4 := range_cell hin c5
  have k1 := range_call hin hout (put_any m.r i.reg t)
  clear sr c4 c5
  refine wp_region_tail_range ω 11 (by kernel_rfl) (by kernel_rfl) (hout _ (Below.refl _ _).drew) ?_; simp only [List.take_succ_cons, List.take_zero, List.drop_succ_cons, List.drop_zero]
  repeat (go_big_quiet_step ((with_reducible exact k1 _)))
  refine wpQuiet_nil ?_; intro _ hw'; obtain ⟨nq, rfl⟩ := hw'
  have HO2 := Lib.hid (HO0.out.below (hin nq))
  have HA2 := Lib.hid (HA0.out.below (hin nq))
  clear r1 r3 r4 k1
  generalize ω nq = w1 at HO2 HA2 ⊢
  have sc := HO2.out.sees.c; have sf := HO2.out.sees.f; have sr := HO2.out.sees.r; have ss := HO2.out.sees.s; have sl := HO2.out.sees.l
  go_wp2_with fail
  (first | go_end0 | (((try simp only [Exit.inBlock, Exit.then]); refine bodyPost_ret (results_none rfl _ _ _) rfl ?_)))
  exact ⟨rfl, After.mk (HO2.out.putR _ HWF.out) (HA2.out.putR _)⟩

set_option maxRecDepth 100000 in
set_option maxHeartbeats 1600000 in
theorem put_5 (w : World) (C : Phys) (lv : Value) (m : Mach) (h : Own w C lv m) (i : Inst)  (t : V) (ht : t.wf) :
    Calls Tryz.prog 179 #[.pointer (some ⟨C.b, 0, none⟩), i.val, .int .i64 5, t.val] w fun e w' => e = .returned (.tuple #[]) ∧ After C lv w (m.setR (m.r.putSeg i.reg t)) w' := by
  have hs := putIn h i t
  have hwf := h.wf.r
  clear h
  have xi := hs.i.row.cell
  have xt := hs.t.row.cell
  go_enter Tryz.func179, Tryz.ntmps179
  go_wp2_with fail
  generalize (w.alloc (.cells (instC i) 30)).alloc (.cells (valC t) 24) = W0 at *
  have HO0 := Lib.hid hs.o
  have HA0 := Lib.hid hs.a
  have HWF := Lib.hid (Regs.putSeg_wf hwf (i.reg) ht)
  have sr := hs.o.sees.r
  have c3 : W0.cell? ⟨w.heap.size, 5, none⟩ = some (.int .i64 i.reg) := hs.i.row.cell 5
  have c4 : W0.cell? ⟨w.heap.size + 1, 0, none⟩ = some (.int .u16 t.v) := hs.t.row.cell 0
  have c5 : W0.cell? ⟨w.heap.size + 1, 1, none⟩ = some (.bool t.t) := hs.t.row.cell 1
  clear hs xi xt hwf
  refine range_of (W0) ?_; intro S inst ω hin hout
  have r1 := range_regs hin sr
  have r2 := range_cell hin c3
  have r3 := range_cell hin c4
  have r4 := range_cell hin c5
  have k1 := range_call hin hout (putSeg_any m.r i.reg t)
  clear sr c4 c5
  refine wp_region_tail_range ω 11 (by kernel_rfl) (by kernel_rfl) (hout _ (Below.refl _ _).drew) ?_; simp only [List.take_succ_cons, List.take_zero, List.drop_succ_cons, List.drop_zero]
  repeat (go_big_quiet_step ((with_reducible exact k1 _)))
  refine wpQuiet_nil ?_; intro _ hw'; obtain ⟨nq, rfl⟩ := hw'
  have HO2 := Lib.hid (HO0.out.below (hin nq))
  have HA2 := Lib.hid (HA0.out.below (hin nq))
  clear r1 r3 r4 k1
  generalize ω nq = w1 at HO2 HA2 ⊢
  have sc := HO2.out.sees.c; have sf := HO2.out.sees.f; have sr := HO2.out.sees.r; have ss := HO2.out.sees.s; have sl := HO2.out.sees.l
  go_wp2_with fail
  (first | go_end0 | (((try simp only [Exit.inBlock, Exit.then]); refine bodyPost_ret (results_none rfl _ _ _) rfl ?_)))
  exact ⟨rfl, After.mk (HO2.out.putR _ HWF.out) (HA2.out.putR _)⟩

set_option maxRecDepth 100000 in
set_option maxHeartbeats 1600000 in
theorem put_16 (w : World) (C : Phys) (lv : Value) (m : Mach) (h : Own w C lv m) (i : Inst)  (t : V) (ht : t.wf) :
    Calls Tryz.prog 179 #[.pointer (some ⟨C.b, 0, none⟩), i.val, .int .i64 16, t.val] w fun e w' => e = .returned (.tuple #[]) ∧ After C lv w (m.setR (m.r.put 0 t)) w' := by
  have hs := putIn h i t
  have hwf := h.wf.r
  clear h
  have xi := hs.i.row.cell
  have xt := hs.t.row.cell
  go_enter Tryz.func179, Tryz.ntmps179
  go_wp2_with fail
  generalize (w.alloc (.cells (instC i) 30)).alloc (.cells (valC t) 24) = W0 at *
  have HO0 := Lib.hid hs.o
  have HA0 := Lib.hid hs.a
  have HWF := Lib.hid (Regs.put_wf hwf (0) ht)
  have sr := hs.o.sees.r
  have c4 : W0.cell? ⟨w.heap.size + 1, 0, none⟩ = some (.int .u16 t.v) := hs.t.row.cell 0
  have c5 : W0.cell? ⟨w.heap.size + 1, 1, none⟩ = some (.bool t.t) := hs.t.row.cell 1
  clear hs xi xt hwf
  refine range_of (W0) ?_; intro S inst ω hin hout
  have r1 := range_regs hin sr
  have r3 := range_cell hin c4
  have r4 := range_cell hin c5
  have k1 := range_call hin hout (put_any m.r 0 t)
  clear sr c4 c5
  refine wp_region_tail_range ω 9 (by kernel_rfl) (by kernel_rfl) (hout _ (Below.refl _ _).drew) ?_; simp only [List.take_succ_cons, List.take_zero, List.drop_succ_cons, List.drop_zero]
  repeat (go_big_quiet_step ((with_reducible exact k1 _)))
  refine wpQuiet_nil ?_; intro _ hw'; obtain ⟨nq, rfl⟩ := hw'
  have HO2 := Lib.hid (HO0.out.below (hin nq))
  have HA2 := Lib.hid (HA0.out.below (hin nq))
  clear r1 r3 r4 k1
  generalize ω nq = w1 at HO2 HA2 ⊢
  have sc := HO2.out.sees.c; have sf := HO2.out.sees.f; have sr := HO2.out.sees.r; have ss := HO2.out.sees.s; have sl := HO2.out.sees.l
  go_wp2_with fail
  (first | go_end0 | (((try simp only [Exit.inBlock, Exit.then]); refine bodyPost_ret (results_none rfl _ _ _) rfl ?_)))
  exact ⟨rfl, After.mk (HO2.out.putR _ HWF.out) (HA2.out.putR _)⟩

set_option maxRecDepth 100000 in
set_option maxHeartbeats 1600000 in
theorem put_22 (w : World) (C : Phys) (lv : Value) (m : Mach) (h : Own w C lv m) (i : Inst) (h0 : 0 ≤ i.op) (h1 : i.op ≤ 255) (t : V) (ht : t.wf) :
    Calls Tryz.prog 179 #[.pointer (some ⟨C.b, 0, none⟩), i.val, .int .i64 22, t.val] w fun e w' => e = .returned (.tuple #[]) ∧ After C lv w (m.setR (m.r.put (i.op % 8) t)) w' := by
  have hs := putIn h i t
  have hwf := h.wf.r
  clear h
  have xi := hs.i.row.cell
  have xt := hs.t.row.cell
  go_enter Tryz.func179, Tryz.ntmps179
  go_wp2_with fail
  generalize (w.alloc (.cells (instC i) 30)).alloc (.cells (valC t) 24) = W0 at *
  have HO0 := Lib.hid hs.o
  have HA0 := Lib.hid hs.a
  have e7 := u8_and7 i.op h0 (by omega)
  have HWF := Lib.hid (Regs.put_wf hwf ((i.op % 8)) ht)
  have sr := hs.o.sees.r
  have c3 : W0.cell? ⟨w.heap.size, 3, none⟩ = some (.int .u8 i.op) := hs.i.row.cell 3
  have c4 : W0.cell? ⟨w.heap.size + 1, 0, none⟩ = some (.int .u16 t.v) := hs.t.row.cell 0
  have c5 : W0.cell? ⟨w.heap.size + 1, 1, none⟩ = some (.bool t.t) := hs.t.row.cell 1
  clear hs xi xt hwf
  refine range_of (W0) ?_; intro S inst ω hin hout
  have r1 := range_regs hin sr
  have r2 := range_cell hin c3
  have r3 := range_cell hin c4
  have r4 := range_cell hin c5
  have k1 := range_call hin hout (put_any m.r (i.op % 8) t)
  clear sr c4 c5
  refine wp_region_tail_range ω 13 (by kernel_rfl) (by kernel_rfl) (hout _ (Below.refl _ _).drew) ?_; simp only [List.take_succ_cons, List.take_zero, List.drop_succ_cons, List.drop_zero]
  repeat (go_big_quiet_step ((with_reducible exact k1 _)))
  refine wpQuiet_nil ?_; intro _ hw'; obtain ⟨nq, rfl⟩ := hw'
  have HO2 := Lib.hid (HO0.out.below (hin nq))
  have HA2 := Lib.hid (HA0.out.below (hin nq))
  clear r1 r3 r4 k1
  generalize ω nq = w1 at HO2 HA2 ⊢
  have sc := HO2.out.sees.c; have sf := HO2.out.sees.f; have sr := HO2.out.sees.r; have ss := HO2.out.sees.s; have sl := HO2.out.sees.l
  go_wp2_with fail
  (first | go_end0 | (((try simp only [Exit.inBlock, Exit.then]); refine bodyPost_ret (results_none rfl _ _ _) rfl ?_)))
  exact ⟨rfl, After.mk (HO2.out.putR _ HWF.out) (HA2.out.putR _)⟩

set_option maxRecDepth 100000 in
set_option maxHeartbeats 1600000 in
theorem put_23 (w : World) (C : Phys) (lv : Value) (m : Mach) (h : Own w C lv m) (i : Inst) (h0 : 0 ≤ i.op) (h1 : i.op ≤ 255) (t : V) (ht : t.wf) :
    Calls Tryz.prog 179 #[.pointer (some ⟨C.b, 0, none⟩), i.val, .int .i64 23, t.val] w fun e w' => e = .returned (.tuple #[]) ∧ After C lv w (m.setR (m.r.putSeg (i.op / 8 % 4) t)) w' := by
  have hs := putIn h i t
  have hwf := h.wf.r
  clear h
  have xi := hs.i.row.cell
  have xt := hs.t.row.cell
  go_enter Tryz.func179, Tryz.ntmps179
  go_wp2_with fail
  generalize (w.alloc (.cells (instC i) 30)).alloc (.cells (valC t) 24) = W0 at *
  have HO0 := Lib.hid hs.o
  have HA0 := Lib.hid hs.a
  have e3 := op_seg i.op h0 h1
  have HWF := Lib.hid (Regs.putSeg_wf hwf ((i.op / 8 % 4)) ht)
  have sr := hs.o.sees.r
  have c3 : W0.cell? ⟨w.heap.size, 3, none⟩ = some (.int .u8 i.op) := hs.i.row.cell 3
  have c4 : W0.cell? ⟨w.heap.size + 1, 0, none⟩ = some (.int .u16 t.v) := hs.t.row.cell 0
  have c5 : W0.cell? ⟨w.heap.size + 1, 1, none⟩ = some (.bool t.t) := hs.t.row.cell 1
  clear hs xi xt hwf
  refine range_of (W0) ?_; intro S inst ω hin hout
  have r1 := range_regs hin sr
  have r2 := range_cell hin c3
  have r3 := range_cell hin c4
  have r4 := range_cell hin c5
  have k1 := range_call hin hout (putSeg_any m.r (i.op / 8 % 4) t)
  clear sr c4 c5
  refine wp_region_tail_range ω 14 (by kernel_rfl) (by kernel_rfl) (hout _ (Below.refl _ _).drew) ?_; simp only [List.take_succ_cons, List.take_zero, List.drop_succ_cons, List.drop_zero]
  repeat (go_big_quiet_step ((with_reducible exact k1 _)))
  refine wpQuiet_nil ?_; intro _ hw'; obtain ⟨nq, rfl⟩ := hw'
  have HO2 := Lib.hid (HO0.out.below (hin nq))
  have HA2 := Lib.hid (HA0.out.below (hin nq))
  clear r1 r3 r4 k1
  generalize ω nq = w1 at HO2 HA2 ⊢
  have sc := HO2.out.sees.c; have sf := HO2.out.sees.f; have sr := HO2.out.sees.r; have ss := HO2.out.sees.s; have sl := HO2.out.sees.l
  go_wp2_with fail
  (first | go_end0 | (((try simp only [Exit.inBlock, Exit.then]); refine bodyPost_ret (results_none rfl _ _ _) rfl ?_)))
  exact ⟨rfl, After.mk (HO2.out.putR _ HWF.out) (HA2.out.putR _)⟩

/-- An operand has another value, of one that is no place in memory. -/
theorem putBare_any (w : World) (C : Phys) (lv : Value) (m : Mach) (h : Own w C lv m) (i : Inst) (h0 : 0 ≤ i.op) (h1 : i.op ≤ 255) (op : Int) (ho : (1 ≤ op ∧ op ≤ 5) ∨ op = 14 ∨ op = 16 ∨ (21 ≤ op ∧ op ≤ 23)) (hm : op ≤ 2 → i.mod = 3) (t : V) (ht : t.wf) :
    Calls Tryz.prog 179 #[.pointer (some ⟨C.b, 0, none⟩), i.val, .int .i64 op, t.val] w fun e w' => e = .returned (.tuple #[]) ∧ After C lv w (m.putV i op t) w' := by
  have hc : op = 1 ∨ op = 2 ∨ op = 3 ∨ op = 4 ∨ op = 5 ∨ op = 14 ∨ op = 16 ∨ op = 21 ∨ op = 22 ∨ op = 23 := by omega
  rcases hc with rfl | rfl | rfl | rfl | rfl | rfl | rfl | rfl | rfl | rfl
  · have e := hm (by decide)
    rw [show m.putV i 1 t = m.setRegByte i.rm t.v from if_pos e]
    exact put_1 w C lv m h i (by rw [e]; rfl) t ht
  · have e := hm (by decide)
    rw [show m.putV i 2 t = m.setR (m.r.put i.rm t) from if_pos e]
    exact put_2 w C lv m h i (by rw [e]; rfl) t ht
  · exact put_3 w C lv m h i t ht
  · exact put_4 w C lv m h i t ht
  · exact put_5 w C lv m h i t ht
  · exact put_14 w C lv m h i t ht
  · exact put_16 w C lv m h i t ht
  · exact put_21 w C lv m h i h0 h1 t ht
  · exact put_22 w C lv m h i h0 h1 t ht
  · exact put_23 w C lv m h i h0 h1 t ht
end Go.Proofs.YtcglkefaopgjeaaGreatDoor

/- Package cpu: stack. -/
namespace Go.Proofs.YtcglkefaopgjeaaGreatDoor
set_option linter.unusedSimpArgs false
set_option linter.unusedVariables false
open Go.RowKit

/-- Get and Put have their contracts at an operand. -/
def GetOk (i : Inst) (op : Int) : Prop := ∀ (w : World) (C : Phys) (lv : Value) (m : Mach), Own w C lv m → ∀ t : V,
  Calls Tryz.prog 66 #[.pointer (some ⟨C.b, 0, none⟩), i.val, .int .i64 op, t.val] w fun e w' => e = .returned (m.getV i op t).val ∧ After C lv w (m.getM i op) w'
def PutOk (i : Inst) (op : Int) : Prop := ∀ (w : World) (C : Phys) (lv : Value) (m : Mach), Own w C lv m → ∀ t : V, t.wf →
  Calls Tryz.prog 179 #[.pointer (some ⟨C.b, 0, none⟩), i.val, .int .i64 op, t.val] w fun e w' => e = .returned (.tuple #[]) ∧ After C lv w (m.putV i op t) w'
theorem getOk_bare (i : Inst) (h0 : 0 ≤ i.op) (h1 : i.op ≤ 255) (op : Int) (ho : (1 ≤ op ∧ op ≤ 8) ∨ (14 ≤ op ∧ op ≤ 18) ∨ (21 ≤ op ∧ op ≤ 24)) (hm : op ≤ 2 → i.mod = 3) : GetOk i op := fun w C lv m h t => getBare_any w C lv m h i h0 h1 op ho hm t
theorem putOk_bare (i : Inst) (h0 : 0 ≤ i.op) (h1 : i.op ≤ 255) (op : Int) (ho : (1 ≤ op ∧ op ≤ 5) ∨ op = 14 ∨ op = 16 ∨ (21 ≤ op ∧ op ≤ 23)) (hm : op ≤ 2 → i.mod = 3) : PutOk i op := fun w C lv m h t ht => putBare_any w C lv m h i h0 h1 op ho hm t ht

theorem or_lo (a b : Int) : 0 ≤ orW a b := by show 0 ≤ IntKind.u16.wrap _; exact wrap16_lo _
theorem or_hi (a b : Int) : orW a b ≤ 65535 := by show IntKind.u16.wrap _ ≤ 65535; exact wrap16_hi _
theorem and_lo (a b : Int) : 0 ≤ andW a b := by show 0 ≤ IntKind.u16.wrap _; exact wrap16_lo _
theorem and_hi (a b : Int) : andW a b ≤ 65535 := by show IntKind.u16.wrap _ ≤ 65535; exact wrap16_hi _
abbrev rowC (r : IRow) : Array Value := #[.int .i64 r.name, .int .i64 r.a, .int .i64 r.b, .bool r.mod]
/-- The boxes that stack begins with. -/
structure StIn (C : Phys) (lv : Value) (w : World) (m : Mach) (i : Inst) (r : IRow) (W0 : World) : Prop where
  o : Own W0 C lv m
  a : Acc C lv w lv W0
  i : Box C lv W0 w.heap.size (instC i) 30
  r : Box C lv W0 (w.heap.size + 1) (rowC r) 47
theorem stIn {C : Phys} {lv : Value} {w : World} {m : Mach} (h : Own w C lv m) (i : Inst) (r : IRow) : StIn C lv w m i r ((w.alloc (.cells (instC i) 30)).alloc (.cells (rowC r) 47)) := by
  have o1 := h.alloc (.cells (instC i) 30)
  have x2 := Box.new o1 (rowC r) 47
  rw [World.size_alloc] at x2
  exact ⟨o1.alloc _, ((Acc.refl C lv w).alloc _).alloc _, (Box.new h _ _).alloc _, x2⟩

def pushesSP (i : Inst) (r : IRow) : Bool := (r.a == 22 && i.op % 8 == 4) || (r.a == 2 && i.mod == 3 && i.rm == 4)
def Mach.doPush (m : Mach) (i : Inst) (r : IRow) : Mach := (m.getM i r.a).push (if pushesSP i r then ⟨IntKind.u16.wrap ((m.getV i r.a zeroV).v - 2), (m.getV i r.a zeroV).t⟩ else m.getV i r.a zeroV)
def Mach.doPop (m : Mach) (i : Inst) (r : IRow) : Mach := m.popM.putV i r.a m.popV
def Mach.doPushF (m : Mach) : Mach := m.push ⟨orW (andW m.r.f 4053) 61442, false⟩
def Mach.doPopF (m : Mach) : Mach := (m.popM.plain m.popV).setR { m.popM.r with f := andW m.popV.v 4053 }

set_option maxRecDepth 100000 in
set_option maxHeartbeats 3200000 in
theorem stack_push (w : World) (C : Phys) (lv : Value) (m : Mach) (h : Own w C lv m) (i : Inst) (r : IRow) (h0 : 0 ≤ i.op) (h1 : i.op ≤ 255) (hn : r.name = 9) (hg : GetOk i r.a) :
    Calls Tryz.prog 127 #[.pointer (some ⟨C.b, 0, none⟩), i.val, r.val] w fun e w' => e = .returned (.tuple #[]) ∧ After C lv w (m.doPush i r) w' := by
  obtain ⟨name, ra, rb, rm⟩ := r
  dsimp only at hn hg
  subst hn
  have hs := stIn h i ⟨9, ra, rb, rm⟩
  have hwf := getV_wf h i ra (tail := zeroV) ⟨by decide, by decide⟩
  have HG := Lib.hid hg
  have e7 := u8_and7 i.op h0 (by omega)
  clear h hg
  have xi := hs.i.row.cell
  have xr := hs.r.row.cell
  have HD := Lib.hid (show m.doPush i ⟨9, ra, rb, rm⟩ = (m.getM i ra).push (if pushesSP i ⟨9, ra, rb, rm⟩ then ⟨IntKind.u16.wrap ((m.getV i ra zeroV).v - 2), (m.getV i ra zeroV).t⟩ else m.getV i ra zeroV) from rfl)
  go_enter Tryz.func127, Tryz.ntmps127
  go_wp2_with fail
  generalize (w.alloc (.cells (instC i) 30)).alloc (.cells (rowC ⟨9, ra, rb, rm⟩) 47) = W0 at *
  have HA0 := Lib.hid hs.a
  have HI0 := Lib.hid hs.i
  have HR0 := Lib.hid hs.r
  refine (HG.out _ _ _ _ hs.o zeroV).mono ?_
  generalize m.getV i ra zeroV = v at HD hwf
  generalize m.getM i ra = m1 at HD
  obtain ⟨vv, vt⟩ := v
  obtain ⟨v0, v1⟩ := hwf
  dsimp only at v0 v1
  clear hs xi xr
  rintro e w2 ⟨rfl, lv2, h2, f2, k2⟩; dsimp only
  have HO2 := Lib.hid h2
  have HA2 := Lib.hid (HA0.out.trans ⟨f2, k2⟩)
  have xi := (HI0.out.step f2 k2).row.cell
  have xr := (HR0.out.step f2 k2).row.cell
  have hsz := (HR0.out.step f2 k2).row.lt
  have hsz2 := (HI0.out.step f2 k2).row.lt
  clear h2 f2 k2
  have fin : ∀ (lvx : Value) (wx : World) (x : V), ((pushesSP i ⟨9, ra, rb, rm⟩ = true ∧ x = ⟨IntKind.u16.wrap (vv - 2), vt⟩) ∨ (pushesSP i ⟨9, ra, rb, rm⟩ = false ∧ x = ⟨vv, vt⟩)) → Acc C lv w lvx wx → Own wx C lvx (m1.push x) → After C lv w (m.doPush i ⟨9, ra, rb, rm⟩) wx := by
    intro lvx wx x hx ha ho
    rw [HD.out]
    rcases hx with ⟨hp, rfl⟩ | ⟨hp, rfl⟩
    · rw [hp, if_pos rfl]; exact After.mk ho ha
    · rw [hp, if_neg (by decide)]; exact After.mk ho ha
  have FIN := Lib.hid fin
  clear fin
  have hcase : (ra = 22 ∧ i.op % 8 = 4) ∨ (ra = 22 ∧ ¬ i.op % 8 = 4) ∨ (ra = 2 ∧ i.mod = 3 ∧ i.rm = 4) ∨ (ra = 2 ∧ i.mod = 3 ∧ ¬ i.rm = 4) ∨ (ra = 2 ∧ ¬ i.mod = 3) ∨ (¬ ra = 22 ∧ ¬ ra = 2) := by omega
  rcases hcase with ⟨rfl, c1⟩ | ⟨rfl, c1⟩ | ⟨rfl, c1, c2⟩ | ⟨rfl, c1, c2⟩ | ⟨rfl, c1⟩ | ⟨c1, c2⟩
  · have HP := Lib.hid (show pushesSP i ⟨9, 22, rb, rm⟩ = true by simp [pushesSP, c1])
    rw [c1] at e7
    clear c1
    go_wp2_with fail
    refine (push_any _ _ _ _ (HO2.out.alloc _) ⟨IntKind.u16.wrap (vv - 2), vt⟩ ⟨wrap16_lo _, wrap16_hi _⟩).mono ?_
    rintro e w4 ⟨rfl, lv4, h4, f4, k4⟩; dsimp only
    have HO4 := Lib.hid h4
    have HA4 := Lib.hid ((HA2.out.alloc _).trans ⟨f4, k4⟩)
    clear h4 f4 k4
    go_wp2_with fail
    (first | go_end0 | (((try simp only [Exit.inBlock, Exit.then]); refine bodyPost_ret (results_none rfl _ _ _) rfl ?_)))
    exact ⟨rfl, FIN.out _ _ _ (Or.inl ⟨HP.out, rfl⟩) HA4.out HO4.out⟩
  · have HP := Lib.hid (show pushesSP i ⟨9, 22, rb, rm⟩ = false by simp [pushesSP, c1])
    have d1 : (i.op % 8 == 4) = false := by simpa using c1
    clear c1
    go_wp2_with fail
    refine (push_any _ _ _ _ (HO2.out.alloc _) ⟨vv, vt⟩ ⟨v0, v1⟩).mono ?_
    rintro e w4 ⟨rfl, lv4, h4, f4, k4⟩; dsimp only
    have HO4 := Lib.hid h4
    have HA4 := Lib.hid ((HA2.out.alloc _).trans ⟨f4, k4⟩)
    clear h4 f4 k4
    go_wp2_with fail
    (first | go_end0 | (((try simp only [Exit.inBlock, Exit.then]); refine bodyPost_ret (results_none rfl _ _ _) rfl ?_)))
    exact ⟨rfl, FIN.out _ _ _ (Or.inr ⟨HP.out, rfl⟩) HA4.out HO4.out⟩
  · have HP := Lib.hid (show pushesSP i ⟨9, 2, rb, rm⟩ = true by simp [pushesSP, c1, c2])
    have d1 : (i.mod == 3) = true := by simpa using c1
    have d2 : (i.rm == 4) = true := by simpa using c2
    clear c1 c2
    go_wp2_with fail
    refine (push_any _ _ _ _ (HO2.out.alloc _) ⟨IntKind.u16.wrap (vv - 2), vt⟩ ⟨wrap16_lo _, wrap16_hi _⟩).mono ?_
    rintro e w4 ⟨rfl, lv4, h4, f4, k4⟩; dsimp only
    have HO4 := Lib.hid h4
    have HA4 := Lib.hid ((HA2.out.alloc _).trans ⟨f4, k4⟩)
    clear h4 f4 k4
    go_wp2_with fail
    (first | go_end0 | (((try simp only [Exit.inBlock, Exit.then]); refine bodyPost_ret (results_none rfl _ _ _) rfl ?_)))
    exact ⟨rfl, FIN.out _ _ _ (Or.inl ⟨HP.out, rfl⟩) HA4.out HO4.out⟩
  · have HP := Lib.hid (show pushesSP i ⟨9, 2, rb, rm⟩ = false by simp [pushesSP, c2])
    have d1 : (i.mod == 3) = true := by simpa using c1
    have d2 : (i.rm == 4) = false := by simpa using c2
    clear c1 c2
    go_wp2_with fail
    refine (push_any _ _ _ _ (HO2.out.alloc _) ⟨vv, vt⟩ ⟨v0, v1⟩).mono ?_
    rintro e w4 ⟨rfl, lv4, h4, f4, k4⟩; dsimp only
    have HO4 := Lib.hid h4
    have HA4 := Lib.hid ((HA2.out.alloc _).trans ⟨f4, k4⟩)
    clear h4 f4 k4
    go_wp2_with fail
    (first | go_end0 | (((try simp only [Exit.inBlock, Exit.then]); refine bodyPost_ret (results_none rfl _ _ _) rfl ?_)))
    exact ⟨rfl, FIN.out _ _ _ (Or.inr ⟨HP.out, rfl⟩) HA4.out HO4.out⟩
  · have HP := Lib.hid (show pushesSP i ⟨9, 2, rb, rm⟩ = false by simp [pushesSP, c1])
    have d1 : (i.mod == 3) = false := by simpa using c1
    clear c1
    go_wp2_with fail
    refine (push_any _ _ _ _ (HO2.out.alloc _) ⟨vv, vt⟩ ⟨v0, v1⟩).mono ?_
    rintro e w4 ⟨rfl, lv4, h4, f4, k4⟩; dsimp only
    have HO4 := Lib.hid h4
    have HA4 := Lib.hid ((HA2.out.alloc _).trans ⟨f4, k4⟩)
    clear h4 f4 k4
    go_wp2_with fail
    (first | go_end0 | (((try simp only [Exit.inBlock, Exit.then]); refine bodyPost_ret (results_none rfl _ _ _) rfl ?_)))
    exact ⟨rfl, FIN.out _ _ _ (Or.inr ⟨HP.out, rfl⟩) HA4.out HO4.out⟩
  · have HP := Lib.hid (show pushesSP i ⟨9, ra, rb, rm⟩ = false by simp [pushesSP, c1, c2])
    have d1 : (ra == 22) = false := by simpa using c1
    have d2 : (ra == 2) = false := by simpa using c2
    clear c1 c2
    go_wp2_with fail
    refine (push_any _ _ _ _ (HO2.out.alloc _) ⟨vv, vt⟩ ⟨v0, v1⟩).mono ?_
    rintro e w4 ⟨rfl, lv4, h4, f4, k4⟩; dsimp only
    have HO4 := Lib.hid h4
    have HA4 := Lib.hid ((HA2.out.alloc _).trans ⟨f4, k4⟩)
    clear h4 f4 k4
    go_wp2_with fail
    (first | go_end0 | (((try simp only [Exit.inBlock, Exit.then]); refine bodyPost_ret (results_none rfl _ _ _) rfl ?_)))
    exact ⟨rfl, FIN.out _ _ _ (Or.inr ⟨HP.out, rfl⟩) HA4.out HO4.out⟩

set_option maxRecDepth 100000 in
set_option maxHeartbeats 1600000 in
theorem stack_pop (w : World) (C : Phys) (lv : Value) (m : Mach) (h : Own w C lv m) (i : Inst) (r : IRow) (hn : r.name = 10) (hp : PutOk i r.a) :
    Calls Tryz.prog 127 #[.pointer (some ⟨C.b, 0, none⟩), i.val, r.val] w fun e w' => e = .returned (.tuple #[]) ∧ After C lv w (m.doPop i r) w' := by
  obtain ⟨name, ra, rb, rm⟩ := r
  dsimp only at hn hp
  subst hn
  have hs := stIn h i ⟨10, ra, rb, rm⟩
  have hv := popV_wf hs.o
  have HP := Lib.hid hp
  clear h hp
  have xr := hs.r.row.cell
  have HD := Lib.hid (show m.doPop i ⟨10, ra, rb, rm⟩ = m.popM.putV i ra m.popV from rfl)
  go_enter Tryz.func127, Tryz.ntmps127
  go_wp2_with fail
  generalize (w.alloc (.cells (instC i) 30)).alloc (.cells (rowC ⟨10, ra, rb, rm⟩) 47) = W0 at *
  have HA0 := Lib.hid hs.a
  have HI0 := Lib.hid hs.i
  have HR0 := Lib.hid hs.r
  refine (pop_any _ _ _ _ hs.o).mono ?_
  generalize m.popV = v at HD hv
  generalize m.popM = m1 at HD
  obtain ⟨vv, vt⟩ := v
  clear hs xr
  rintro e w2 ⟨rfl, lv2, h2, f2, k2⟩; dsimp only
  have HO2 := Lib.hid h2
  have HA2 := Lib.hid (HA0.out.trans ⟨f2, k2⟩)
  have xi := (HI0.out.step f2 k2).row.cell
  have xr := (HR0.out.step f2 k2).row.cell
  have hsz := (HR0.out.step f2 k2).row.lt
  have hsz2 := (HI0.out.step f2 k2).row.lt
  clear h2 f2 k2
  go_wp2_with fail
  refine (HP.out _ _ _ _ (HO2.out.alloc _) ⟨vv, vt⟩ hv).mono ?_
  rintro e w4 ⟨rfl, lv4, h4, f4, k4⟩; dsimp only
  have HO4 := Lib.hid h4
  have HA4 := Lib.hid ((HA2.out.alloc _).trans ⟨f4, k4⟩)
  clear h4 f4 k4
  go_wp2_with fail
  (first | go_end0 | (((try simp only [Exit.inBlock, Exit.then]); refine bodyPost_ret (results_none rfl _ _ _) rfl ?_)))
  rw [HD.out]
  exact ⟨rfl, After.mk HO4.out HA4.out⟩

set_option maxRecDepth 100000 in
set_option maxHeartbeats 1600000 in
theorem stack_pushf (w : World) (C : Phys) (lv : Value) (m : Mach) (h : Own w C lv m) (i : Inst) (r : IRow) (hn : r.name = 42) :
    Calls Tryz.prog 127 #[.pointer (some ⟨C.b, 0, none⟩), i.val, r.val] w fun e w' => e = .returned (.tuple #[]) ∧ After C lv w m.doPushF w' := by
  obtain ⟨name, ra, rb, rm⟩ := r
  dsimp only at hn
  subst hn
  have hs := stIn h i ⟨42, ra, rb, rm⟩
  clear h
  have sr := hs.o.sees.r
  have sl := hs.o.row.lt
  have HD := Lib.hid (show m.doPushF = m.push ⟨orW (andW m.r.f 4053) 61442, false⟩ from rfl)
  have HW := Lib.hid (show V.wf ⟨orW (andW m.r.f 4053) 61442, false⟩ from ⟨or_lo _ _, or_hi _ _⟩)
  go_enter Tryz.func127, Tryz.ntmps127
  go_wp2_with fail
  generalize (w.alloc (.cells (instC i) 30)).alloc (.cells (rowC ⟨42, ra, rb, rm⟩) 47) = W0 at *
  have HO0 := Lib.hid hs.o
  have HA0 := Lib.hid hs.a
  refine (flagsWord_any m.r _).mono ?_
  clear hs sr sl
  rintro e w2 ⟨rfl, hb⟩; dsimp only
  have HO2 := Lib.hid (HO0.out.below hb)
  have HA2 := Lib.hid (HA0.out.below hb)
  clear hb
  go_wp2_with fail
  refine (push_any _ _ _ _ HO2.out ⟨orW (andW m.r.f 4053) 61442, false⟩ HW.out).mono ?_
  rintro e w4 ⟨rfl, lv4, h4, f4, k4⟩; dsimp only
  have HO4 := Lib.hid h4
  have HA4 := Lib.hid (HA2.out.trans ⟨f4, k4⟩)
  clear h4 f4 k4
  go_wp2_with fail
  (first | go_end0 | (((try simp only [Exit.inBlock, Exit.then]); refine bodyPost_ret (results_none rfl _ _ _) rfl ?_)))
  rw [HD.out]
  exact ⟨rfl, After.mk HO4.out HA4.out⟩

set_option maxRecDepth 100000 in
set_option maxHeartbeats 1600000 in
theorem stack_popf (w : World) (C : Phys) (lv : Value) (m : Mach) (h : Own w C lv m) (i : Inst) (r : IRow) (hn : r.name = 43) :
    Calls Tryz.prog 127 #[.pointer (some ⟨C.b, 0, none⟩), i.val, r.val] w fun e w' => e = .returned (.tuple #[]) ∧ After C lv w m.doPopF w' := by
  obtain ⟨name, ra, rb, rm⟩ := r
  dsimp only at hn
  subst hn
  have hs := stIn h i ⟨43, ra, rb, rm⟩
  clear h
  have HD := Lib.hid (show m.doPopF = (m.popM.plain m.popV).setR { (m.popM.plain m.popV).r with f := andW m.popV.v 4053 } from by rw [plain_r]; rfl)
  go_enter Tryz.func127, Tryz.ntmps127
  go_wp2_with fail
  generalize (w.alloc (.cells (instC i) 30)).alloc (.cells (rowC ⟨43, ra, rb, rm⟩) 47) = W0 at *
  have HA0 := Lib.hid hs.a
  refine (pop_any _ _ _ _ hs.o).mono ?_
  generalize m.popV = v at HD
  generalize m.popM = m1 at HD
  obtain ⟨vv, vt⟩ := v
  clear hs
  rintro e w2 ⟨rfl, lv2, h2, f2, k2⟩; dsimp only
  have HO2 := Lib.hid (h2.alloc (.cells (valC ⟨vv, vt⟩) 24))
  have HA2 := Lib.hid ((HA0.out.trans ⟨f2, k2⟩).alloc (.cells (valC ⟨vv, vt⟩) 24))
  clear h2 f2 k2
  go_wp2_with fail
  refine (plain_any _ _ _ _ HO2.out ⟨vv, vt⟩).mono ?_
  generalize m1.plain ⟨vv, vt⟩ = m2 at HD
  rintro e w3 ⟨rfl, lv3, h3, f3, k3⟩; dsimp only
  have HO3 := Lib.hid h3
  have HA3 := Lib.hid (HA2.out.trans ⟨f3, k3⟩)
  clear h3 f3 k3
  have HW := Lib.hid (show Regs.wf { m2.r with f := andW vv 4053 } from { HO3.out.wf.r with f := ⟨and_lo _ _, and_hi _ _⟩ })
  have sc := HO3.out.sees.c; have sf := HO3.out.sees.f; have sr := HO3.out.sees.r; have ss := HO3.out.sees.s; have sl := HO3.out.sees.l
  go_wp2_with fail
  refine (fromWord_any m2.r vv _).mono ?_
  rintro e w4 ⟨rfl, hb⟩; dsimp only
  have HO4 := Lib.hid (HO3.out.below hb)
  have HA4 := Lib.hid (HA3.out.below hb)
  clear sc sf sr ss sl; clear hb
  have sc := HO4.out.sees.c; have sf := HO4.out.sees.f; have sr := HO4.out.sees.r; have ss := HO4.out.sees.s; have sl := HO4.out.sees.l
  have ne : ¬ C.b = w4.heap.size := Nat.ne_of_lt sl
  have l4 : w.heap.size ≤ w4.heap.size := HA4.out.f.size
  go_wp2_with fail
  go_end0
  rw [HD.out]
  exact ⟨rfl, After.mk (((HO4.out.alloc _).putFresh HO4.out (Nat.le_refl _) _).putR _ HW.out) (((HA4.out.alloc _).putFresh l4 _).putR _)⟩
end Go.Proofs.YtcglkefaopgjeaaGreatDoor

/- Package isa: the rows of instructions. -/
namespace Go.Proofs.YtcglkefaopgjeaaGreatDoor
set_option linter.unusedSimpArgs false
set_option linter.unusedVariables false
open Go.RowKit

def zRow : IRow := ⟨0, 0, 0, false⟩
/-- A row, or none. -/
abbrev rowV (r : Option IRow) : Value := .tuple #[(r.getD zRow).val, .bool r.isSome]
abbrev rw0 (n a b : Int) : Option IRow := some ⟨n, a, b, false⟩
abbrev rw1 (n a b : Int) : Option IRow := some ⟨n, a, b, true⟩
def sumsOf (op : Int) : Option IRow :=
  if op % 8 = 0 then rw1 (1 + op / 8) 1 3 else if op % 8 = 1 then rw1 (1 + op / 8) 2 4 else if op % 8 = 2 then rw1 (1 + op / 8) 3 1 else if op % 8 = 3 then rw1 (1 + op / 8) 4 2 else
  if op % 8 = 4 then rw0 (1 + op / 8) 14 6 else if op % 8 = 5 then rw0 (1 + op / 8) 16 7 else
  if op = 6 ∨ op = 14 ∨ op = 22 ∨ op = 30 then rw0 9 23 0 else if op = 7 ∨ op = 23 ∨ op = 31 then rw0 10 23 0 else
  if op = 39 then rw0 11 0 0 else if op = 47 then rw0 12 0 0 else if op = 55 then rw0 13 0 0 else if op = 63 then rw0 14 0 0 else none
def movesOf (op reg : Int) : Option IRow :=
  if op = 128 then rw1 (1 + reg) 1 6 else if op = 129 then rw1 (1 + reg) 2 7 else
  if op = 131 then (if reg = 1 ∨ reg = 4 ∨ reg = 6 then none else rw1 (1 + reg) 2 8) else
  if op = 132 then rw1 33 1 3 else if op = 133 then rw1 33 2 4 else if op = 134 then rw1 34 1 3 else if op = 135 then rw1 34 2 4 else
  if op = 136 then rw1 35 1 3 else if op = 137 then rw1 35 2 4 else if op = 138 then rw1 35 3 1 else if op = 139 then rw1 35 4 2 else
  if op = 140 then (if reg < 4 then rw1 35 2 5 else none) else if op = 141 then rw1 36 4 20 else
  if op = 142 then (if reg < 4 ∧ reg ≠ 1 then rw1 35 5 2 else none) else if op = 143 then (if reg = 0 then rw1 10 2 0 else none) else none
def wordsOf (op : Int) : Option IRow :=
  if op < 152 then rw0 34 16 22 else if op = 154 then rw0 40 11 0 else
  if op = 152 then rw0 37 0 0 else if op = 153 then rw0 38 0 0 else if op = 155 then rw0 41 0 0 else if op = 156 then rw0 42 0 0 else if op = 157 then rw0 43 0 0 else if op = 158 then rw0 44 0 0 else rw0 45 0 0
def textsOf (op : Int) : Option IRow :=
  if op = 160 then rw0 35 14 12 else if op = 161 then rw0 35 16 13 else if op = 162 then rw0 35 12 14 else if op = 163 then rw0 35 13 16 else
  if op = 168 then rw0 33 14 6 else if op = 169 then rw0 33 16 7 else if op < 168 then rw0 (46 + (op - 164)) 0 0 else rw0 (50 + (op - 170)) 0 0
def backsOf (op reg : Int) : Option IRow :=
  if op = 194 then rw0 56 7 0 else if op = 195 then rw0 56 0 0 else if op = 196 then rw1 58 4 19 else if op = 197 then rw1 59 4 19 else
  if op = 198 then (if reg = 0 then rw1 35 1 6 else none) else if op = 199 then (if reg = 0 then rw1 35 2 7 else none) else
  if op = 202 then rw0 57 7 0 else if op = 203 then rw0 57 0 0 else if op = 204 then rw0 60 24 0 else if op = 205 then rw0 60 6 0 else
  if op = 206 then rw0 61 0 0 else if op = 207 then rw0 62 0 0 else none
def turnsOf (op reg : Int) : Option IRow :=
  if op < 212 then (if reg = 6 then none else rw1 (if reg = 7 then 69 else 63 + reg) (if op % 2 = 1 then 2 else 1) (if op < 210 then 18 else 15)) else
  if op = 212 then rw0 70 6 0 else if op = 213 then rw0 71 6 0 else if op = 215 then rw0 72 0 0 else if 216 ≤ op then rw1 73 2 0 else none
def goesOf (op : Int) : Option IRow :=
  if op < 228 then rw0 (74 + (op - 224)) 9 0 else if op = 228 then rw0 78 14 6 else if op = 229 then rw0 78 16 6 else if op = 230 then rw0 79 6 14 else if op = 231 then rw0 79 6 16 else
  if op = 232 then rw0 39 10 0 else if op = 233 then rw0 80 10 0 else if op = 234 then rw0 81 11 0 else if op = 235 then rw0 80 9 0 else
  if op = 236 then rw0 78 14 17 else if op = 237 then rw0 78 16 17 else if op = 238 then rw0 79 17 14 else rw0 79 17 16
def restOf (op reg : Int) : Option IRow :=
  if op = 244 then rw0 82 0 0 else if op = 245 then rw0 83 0 0 else if 248 ≤ op ∧ op < 254 then rw0 (90 + (op - 248)) 0 0 else if op < 246 then none else
  if op < 248 then (if reg = 0 then rw1 33 (if op % 2 = 1 then 2 else 1) (if op % 2 = 1 then 7 else 6) else if reg = 1 then none else rw1 (84 + reg - 2) (if op % 2 = 1 then 2 else 1) 0) else
  if reg < 2 then rw1 (15 + reg) (if op % 2 = 1 then 2 else 1) 0 else if op = 254 ∨ reg = 7 then none else
  if reg = 2 then rw1 39 2 0 else if reg = 3 then rw1 40 19 0 else if reg = 4 then rw1 80 2 0 else if reg = 5 then rw1 81 19 0 else rw1 9 2 0
def isaOf (op reg : Int) : Option IRow :=
  if op < 64 then sumsOf op else if op < 96 then rw0 (if op < 72 then 15 else if op < 80 then 16 else if op < 88 then 9 else 10) 22 0 else if op < 112 then none else
  if op < 128 then rw0 (17 + (op - 112)) 9 0 else if op < 144 then movesOf op reg else if op < 160 then wordsOf op else if op < 176 then textsOf op else
  if op < 184 then rw0 35 21 6 else if op < 192 then rw0 35 22 7 else if op < 208 then backsOf op reg else if op < 224 then turnsOf op reg else if op < 240 then goesOf op else restOf op reg

set_option maxHeartbeats 400000 in
theorem isaRow_any (n a b : Int) (w : World) : Calls Tryz.prog 154 #[.int .i64 n, .int .i64 a, .int .i64 b] w fun e w' => e = .returned (.tuple #[.agg #[.int .i64 n, .int .i64 a, .int .i64 b, .bool false], .bool true]) ∧ Below w.heap.size w w' := by
  go_enter Tryz.func154, Tryz.ntmps154
  go_wp2
  refine bodyPost_ret (v := .tuple #[.agg #[.int .i64 n, .int .i64 a, .int .i64 b, .bool false], .bool true]) (by simp [results, Tryz.results154, go_sem]) rfl ⟨rfl, ?_⟩
  (repeat (first | exact Below.refl _ _ | assumption | refine Below.setCell ?_ (by simp) _ | refine Below.alloc ?_ (by simp <;> omega) _ | refine Below.drew ?_ | refine Below.drewN ?_ | refine Below.setRow ?_ (by simp <;> omega) _))
set_option maxHeartbeats 400000 in
theorem isaMod_any (n a b : Int) (w : World) : Calls Tryz.prog 199 #[.int .i64 n, .int .i64 a, .int .i64 b] w fun e w' => e = .returned (.tuple #[.agg #[.int .i64 n, .int .i64 a, .int .i64 b, .bool true], .bool true]) ∧ Below w.heap.size w w' := by
  go_enter Tryz.func199, Tryz.ntmps199
  go_wp2
  refine bodyPost_ret (v := .tuple #[.agg #[.int .i64 n, .int .i64 a, .int .i64 b, .bool true], .bool true]) (by simp [results, Tryz.results199, go_sem]) rfl ⟨rfl, ?_⟩
  (repeat (first | exact Below.refl _ _ | assumption | refine Below.setCell ?_ (by simp) _ | refine Below.alloc ?_ (by simp <;> omega) _ | refine Below.drew ?_ | refine Below.drewN ?_ | refine Below.setRow ?_ (by simp <;> omega) _))
set_option maxHeartbeats 400000 in
theorem isaBad_any (w : World) : Calls Tryz.prog 155 #[] w fun e w' => e = .returned (.tuple #[.agg #[.int .i64 0, .int .i64 0, .int .i64 0, .bool false], .bool false]) ∧ Below w.heap.size w w' := by
  go_enter Tryz.func155, Tryz.ntmps155
  go_wp2
  refine bodyPost_ret (v := .tuple #[.agg #[.int .i64 0, .int .i64 0, .int .i64 0, .bool false], .bool false]) (by simp [results, Tryz.results155, go_sem]) rfl ⟨rfl, ?_⟩
  (repeat (first | exact Below.refl _ _ | assumption | refine Below.setCell ?_ (by simp) _ | refine Below.alloc ?_ (by simp <;> omega) _ | refine Below.drew ?_ | refine Below.drewN ?_ | refine Below.setRow ?_ (by simp <;> omega) _))

theorem u8_and7 (x : Int) (h0 : 0 ≤ x) (h1 : x ≤ 255) : bits .and .u8 x 7 = x % 8 := by
  obtain ⟨n, rfl⟩ := Int.eq_ofNat_of_zero_le h0
  have hn : n ≤ 255 := by omega
  have key : ∀ m : Fin 256, bits .and .u8 ((m.val : Nat) : Int) 7 = ((m.val : Nat) : Int) % 8 := by decide +kernel
  exact key ⟨n, by omega⟩
theorem hb_row {w w1 : World} {cs : Array Value} {t : TypeId} (hb : Below (w.alloc (.cells cs t)).heap.size (w.alloc (.cells cs t)) w1) : Row w1 w.heap.size cs t ∧ Below w.heap.size w w1 :=
  ⟨Below.row hb (Row.new w cs t) (by simp), ((Below.refl w.heap.size w).alloc (Nat.le_refl _) _).trans (hb.mono (by simp))⟩
theorem hb_row2 {w w1 : World} {cs : Array Value} {t : TypeId} {o : Obj} (hb : Below ((w.alloc (.cells cs t)).alloc o).heap.size ((w.alloc (.cells cs t)).alloc o) w1) : Row w1 w.heap.size cs t ∧ Below w.heap.size w w1 :=
  ⟨Below.row hb ((Row.new w cs t).alloc o) (by simp; omega), (((Below.refl w.heap.size w).alloc (Nat.le_refl _) _).alloc (by simp) _).trans (hb.mono (by simp; omega))⟩

set_option maxRecDepth 100000 in
set_option maxHeartbeats 8000000 in
theorem sums_any (op : Int) (w : World) (h0 : 0 ≤ op) (h1 : op < 64) : Calls Tryz.prog 153 #[.int .u8 op] w fun e w' => e = .returned (rowV (sumsOf op)) ∧ Below w.heap.size w w' := by
  have hb7 : bits .and .u8 op 7 = op % 8 := by rw [u8_and7 op h0 (by omega)]
  have hc : op % 8 = 0 ∨ op % 8 = 1 ∨ op % 8 = 2 ∨ op % 8 = 3 ∨ op % 8 = 4 ∨ op % 8 = 5 ∨ op = 6 ∨ op = 7 ∨ op = 14 ∨ op = 15 ∨ op = 22 ∨ op = 23 ∨ op = 30 ∨ op = 31 ∨ op = 38 ∨ op = 39 ∨ op = 46 ∨ op = 47 ∨ op = 54 ∨ op = 55 ∨ op = 62 ∨ op = 63 := by omega
  rcases hc with hc | hc | hc | hc | hc | hc | rfl | rfl | rfl | rfl | rfl | rfl | rfl | rfl | rfl | rfl | rfl | rfl | rfl | rfl | rfl | rfl
  · rw [hc] at hb7
    go_enter Tryz.func153, Tryz.ntmps153
    go_wp2_with (first | (go_at_call 199; refine (isaMod_any _ _ _ _).mono ?_; rintro e w1 ⟨rfl, hb⟩; (first | (with_reducible have hx := hb_row2 hb) | (have hx := hb_row hb)); obtain ⟨hr, hb1⟩ := hx; have HB := Lib.hid hb1; have rc := hr.cell; have rf := hr.frozen; have rl := hr.lt; clear hb hb1 hr) | (go_at_call 154; refine (isaRow_any _ _ _ _).mono ?_; rintro e w1 ⟨rfl, hb⟩; (first | (with_reducible have hx := hb_row2 hb) | (have hx := hb_row hb)); obtain ⟨hr, hb1⟩ := hx; have HB := Lib.hid hb1; have rc := hr.cell; have rf := hr.frozen; have rl := hr.lt; clear hb hb1 hr) | (go_at_call 155; refine (isaBad_any _).mono ?_; rintro e w1 ⟨rfl, hb⟩; (first | (with_reducible have hx := hb_row2 hb) | (have hx := hb_row hb)); obtain ⟨hr, hb1⟩ := hx; have HB := Lib.hid hb1; have rc := hr.cell; have rf := hr.frozen; have rl := hr.lt; clear hb hb1 hr))
    refine bodyPost_ret (v := rowV _) (by simp [results, Tryz.results153, go_sem, sumsOf, zRow, *]) rfl ⟨rfl, ?_⟩
    exact (((HB.out.setCell (Nat.le_refl _) _).setCell (Nat.le_refl _) _).setCell (Nat.le_refl _) _).setCell (Nat.le_refl _) _
  · rw [hc] at hb7
    go_enter Tryz.func153, Tryz.ntmps153
    go_wp2_with (first | (go_at_call 199; refine (isaMod_any _ _ _ _).mono ?_; rintro e w1 ⟨rfl, hb⟩; (first | (with_reducible have hx := hb_row2 hb) | (have hx := hb_row hb)); obtain ⟨hr, hb1⟩ := hx; have HB := Lib.hid hb1; have rc := hr.cell; have rf := hr.frozen; have rl := hr.lt; clear hb hb1 hr) | (go_at_call 154; refine (isaRow_any _ _ _ _).mono ?_; rintro e w1 ⟨rfl, hb⟩; (first | (with_reducible have hx := hb_row2 hb) | (have hx := hb_row hb)); obtain ⟨hr, hb1⟩ := hx; have HB := Lib.hid hb1; have rc := hr.cell; have rf := hr.frozen; have rl := hr.lt; clear hb hb1 hr) | (go_at_call 155; refine (isaBad_any _).mono ?_; rintro e w1 ⟨rfl, hb⟩; (first | (with_reducible have hx := hb_row2 hb) | (have hx := hb_row hb)); obtain ⟨hr, hb1⟩ := hx; have HB := Lib.hid hb1; have rc := hr.cell; have rf := hr.frozen; have rl := hr.lt; clear hb hb1 hr))
    refine bodyPost_ret (v := rowV _) (by simp [results, Tryz.results153, go_sem, sumsOf, zRow, *]) rfl ⟨rfl, ?_⟩
    exact (((HB.out.setCell (Nat.le_refl _) _).setCell (Nat.le_refl _) _).setCell (Nat.le_refl _) _).setCell (Nat.le_refl _) _
  · rw [hc] at hb7
    go_enter Tryz.func153, Tryz.ntmps153
    go_wp2_with (first | (go_at_call 199; refine (isaMod_any _ _ _ _).mono ?_; rintro e w1 ⟨rfl, hb⟩; (first | (with_reducible have hx := hb_row2 hb) | (have hx := hb_row hb)); obtain ⟨hr, hb1⟩ := hx; have HB := Lib.hid hb1; have rc := hr.cell; have rf := hr.frozen; have rl := hr.lt; clear hb hb1 hr) | (go_at_call 154; refine (isaRow_any _ _ _ _).mono ?_; rintro e w1 ⟨rfl, hb⟩; (first | (with_reducible have hx := hb_row2 hb) | (have hx := hb_row hb)); obtain ⟨hr, hb1⟩ := hx; have HB := Lib.hid hb1; have rc := hr.cell; have rf := hr.frozen; have rl := hr.lt; clear hb hb1 hr) | (go_at_call 155; refine (isaBad_any _).mono ?_; rintro e w1 ⟨rfl, hb⟩; (first | (with_reducible have hx := hb_row2 hb) | (have hx := hb_row hb)); obtain ⟨hr, hb1⟩ := hx; have HB := Lib.hid hb1; have rc := hr.cell; have rf := hr.frozen; have rl := hr.lt; clear hb hb1 hr))
    refine bodyPost_ret (v := rowV _) (by simp [results, Tryz.results153, go_sem, sumsOf, zRow, *]) rfl ⟨rfl, ?_⟩
    exact (((HB.out.setCell (Nat.le_refl _) _).setCell (Nat.le_refl _) _).setCell (Nat.le_refl _) _).setCell (Nat.le_refl _) _
  · rw [hc] at hb7
    go_enter Tryz.func153, Tryz.ntmps153
    go_wp2_with (first | (go_at_call 199; refine (isaMod_any _ _ _ _).mono ?_; rintro e w1 ⟨rfl, hb⟩; (first | (with_reducible have hx := hb_row2 hb) | (have hx := hb_row hb)); obtain ⟨hr, hb1⟩ := hx; have HB := Lib.hid hb1; have rc := hr.cell; have rf := hr.frozen; have rl := hr.lt; clear hb hb1 hr) | (go_at_call 154; refine (isaRow_any _ _ _ _).mono ?_; rintro e w1 ⟨rfl, hb⟩; (first | (with_reducible have hx := hb_row2 hb) | (have hx := hb_row hb)); obtain ⟨hr, hb1⟩ := hx; have HB := Lib.hid hb1; have rc := hr.cell; have rf := hr.frozen; have rl := hr.lt; clear hb hb1 hr) | (go_at_call 155; refine (isaBad_any _).mono ?_; rintro e w1 ⟨rfl, hb⟩; (first | (with_reducible have hx := hb_row2 hb) | (have hx := hb_row hb)); obtain ⟨hr, hb1⟩ := hx; have HB := Lib.hid hb1; have rc := hr.cell; have rf := hr.frozen; have rl := hr.lt; clear hb hb1 hr))
    refine bodyPost_ret (v := rowV _) (by simp [results, Tryz.results153, go_sem, sumsOf, zRow, *]) rfl ⟨rfl, ?_⟩
    exact (((HB.out.setCell (Nat.le_refl _) _).setCell (Nat.le_refl _) _).setCell (Nat.le_refl _) _).setCell (Nat.le_refl _) _
  · rw [hc] at hb7
    go_enter Tryz.func153, Tryz.ntmps153
    go_wp2_with (first | (go_at_call 199; refine (isaMod_any _ _ _ _).mono ?_; rintro e w1 ⟨rfl, hb⟩; (first | (with_reducible have hx := hb_row2 hb) | (have hx := hb_row hb)); obtain ⟨hr, hb1⟩ := hx; have HB := Lib.hid hb1; have rc := hr.cell; have rf := hr.frozen; have rl := hr.lt; clear hb hb1 hr) | (go_at_call 154; refine (isaRow_any _ _ _ _).mono ?_; rintro e w1 ⟨rfl, hb⟩; (first | (with_reducible have hx := hb_row2 hb) | (have hx := hb_row hb)); obtain ⟨hr, hb1⟩ := hx; have HB := Lib.hid hb1; have rc := hr.cell; have rf := hr.frozen; have rl := hr.lt; clear hb hb1 hr) | (go_at_call 155; refine (isaBad_any _).mono ?_; rintro e w1 ⟨rfl, hb⟩; (first | (with_reducible have hx := hb_row2 hb) | (have hx := hb_row hb)); obtain ⟨hr, hb1⟩ := hx; have HB := Lib.hid hb1; have rc := hr.cell; have rf := hr.frozen; have rl := hr.lt; clear hb hb1 hr))
    refine bodyPost_ret (v := rowV _) (by simp [results, Tryz.results153, go_sem, sumsOf, zRow, *]) rfl ⟨rfl, ?_⟩
    exact (((HB.out.setCell (Nat.le_refl _) _).setCell (Nat.le_refl _) _).setCell (Nat.le_refl _) _).setCell (Nat.le_refl _) _
  · rw [hc] at hb7
    go_enter Tryz.func153, Tryz.ntmps153
    go_wp2_with (first | (go_at_call 199; refine (isaMod_any _ _ _ _).mono ?_; rintro e w1 ⟨rfl, hb⟩; (first | (with_reducible have hx := hb_row2 hb) | (have hx := hb_row hb)); obtain ⟨hr, hb1⟩ := hx; have HB := Lib.hid hb1; have rc := hr.cell; have rf := hr.frozen; have rl := hr.lt; clear hb hb1 hr) | (go_at_call 154; refine (isaRow_any _ _ _ _).mono ?_; rintro e w1 ⟨rfl, hb⟩; (first | (with_reducible have hx := hb_row2 hb) | (have hx := hb_row hb)); obtain ⟨hr, hb1⟩ := hx; have HB := Lib.hid hb1; have rc := hr.cell; have rf := hr.frozen; have rl := hr.lt; clear hb hb1 hr) | (go_at_call 155; refine (isaBad_any _).mono ?_; rintro e w1 ⟨rfl, hb⟩; (first | (with_reducible have hx := hb_row2 hb) | (have hx := hb_row hb)); obtain ⟨hr, hb1⟩ := hx; have HB := Lib.hid hb1; have rc := hr.cell; have rf := hr.frozen; have rl := hr.lt; clear hb hb1 hr))
    refine bodyPost_ret (v := rowV _) (by simp [results, Tryz.results153, go_sem, sumsOf, zRow, *]) rfl ⟨rfl, ?_⟩
    exact (((HB.out.setCell (Nat.le_refl _) _).setCell (Nat.le_refl _) _).setCell (Nat.le_refl _) _).setCell (Nat.le_refl _) _
  · clear hb7 h0 h1
    have hk : bits .and .u8 6 7 = 6 := by decide
    go_enter Tryz.func153, Tryz.ntmps153
    go_wp2_with (first | (go_at_call 199; refine (isaMod_any _ _ _ _).mono ?_; rintro e w1 ⟨rfl, hb⟩; (first | (with_reducible have hx := hb_row2 hb) | (have hx := hb_row hb)); obtain ⟨hr, hb1⟩ := hx; have HB := Lib.hid hb1; have rc := hr.cell; have rf := hr.frozen; have rl := hr.lt; clear hb hb1 hr) | (go_at_call 154; refine (isaRow_any _ _ _ _).mono ?_; rintro e w1 ⟨rfl, hb⟩; (first | (with_reducible have hx := hb_row2 hb) | (have hx := hb_row hb)); obtain ⟨hr, hb1⟩ := hx; have HB := Lib.hid hb1; have rc := hr.cell; have rf := hr.frozen; have rl := hr.lt; clear hb hb1 hr) | (go_at_call 155; refine (isaBad_any _).mono ?_; rintro e w1 ⟨rfl, hb⟩; (first | (with_reducible have hx := hb_row2 hb) | (have hx := hb_row hb)); obtain ⟨hr, hb1⟩ := hx; have HB := Lib.hid hb1; have rc := hr.cell; have rf := hr.frozen; have rl := hr.lt; clear hb hb1 hr))
    refine bodyPost_ret (v := rowV _) (by simp [results, Tryz.results153, go_sem, sumsOf, zRow, *]) rfl ⟨rfl, ?_⟩
    exact (((HB.out.setCell (Nat.le_refl _) _).setCell (Nat.le_refl _) _).setCell (Nat.le_refl _) _).setCell (Nat.le_refl _) _
  · clear hb7 h0 h1
    have hk : bits .and .u8 7 7 = 7 := by decide
    go_enter Tryz.func153, Tryz.ntmps153
    go_wp2_with (first | (go_at_call 199; refine (isaMod_any _ _ _ _).mono ?_; rintro e w1 ⟨rfl, hb⟩; (first | (with_reducible have hx := hb_row2 hb) | (have hx := hb_row hb)); obtain ⟨hr, hb1⟩ := hx; have HB := Lib.hid hb1; have rc := hr.cell; have rf := hr.frozen; have rl := hr.lt; clear hb hb1 hr) | (go_at_call 154; refine (isaRow_any _ _ _ _).mono ?_; rintro e w1 ⟨rfl, hb⟩; (first | (with_reducible have hx := hb_row2 hb) | (have hx := hb_row hb)); obtain ⟨hr, hb1⟩ := hx; have HB := Lib.hid hb1; have rc := hr.cell; have rf := hr.frozen; have rl := hr.lt; clear hb hb1 hr) | (go_at_call 155; refine (isaBad_any _).mono ?_; rintro e w1 ⟨rfl, hb⟩; (first | (with_reducible have hx := hb_row2 hb) | (have hx := hb_row hb)); obtain ⟨hr, hb1⟩ := hx; have HB := Lib.hid hb1; have rc := hr.cell; have rf := hr.frozen; have rl := hr.lt; clear hb hb1 hr))
    refine bodyPost_ret (v := rowV _) (by simp [results, Tryz.results153, go_sem, sumsOf, zRow, *]) rfl ⟨rfl, ?_⟩
    exact (((HB.out.setCell (Nat.le_refl _) _).setCell (Nat.le_refl _) _).setCell (Nat.le_refl _) _).setCell (Nat.le_refl _) _
  · clear hb7 h0 h1
    have hk : bits .and .u8 14 7 = 6 := by decide
    go_enter Tryz.func153, Tryz.ntmps153
    go_wp2_with (first | (go_at_call 199; refine (isaMod_any _ _ _ _).mono ?_; rintro e w1 ⟨rfl, hb⟩; (first | (with_reducible have hx := hb_row2 hb) | (have hx := hb_row hb)); obtain ⟨hr, hb1⟩ := hx; have HB := Lib.hid hb1; have rc := hr.cell; have rf := hr.frozen; have rl := hr.lt; clear hb hb1 hr) | (go_at_call 154; refine (isaRow_any _ _ _ _).mono ?_; rintro e w1 ⟨rfl, hb⟩; (first | (with_reducible have hx := hb_row2 hb) | (have hx := hb_row hb)); obtain ⟨hr, hb1⟩ := hx; have HB := Lib.hid hb1; have rc := hr.cell; have rf := hr.frozen; have rl := hr.lt; clear hb hb1 hr) | (go_at_call 155; refine (isaBad_any _).mono ?_; rintro e w1 ⟨rfl, hb⟩; (first | (with_reducible have hx := hb_row2 hb) | (have hx := hb_row hb)); obtain ⟨hr, hb1⟩ := hx; have HB := Lib.hid hb1; have rc := hr.cell; have rf := hr.frozen; have rl := hr.lt; clear hb hb1 hr))
    refine bodyPost_ret (v := rowV _) (by simp [results, Tryz.results153, go_sem, sumsOf, zRow, *]) rfl ⟨rfl, ?_⟩
    exact (((HB.out.setCell (Nat.le_refl _) _).setCell (Nat.le_refl _) _).setCell (Nat.le_refl _) _).setCell (Nat.le_refl _) _
  · clear hb7 h0 h1
    have hk : bits .and .u8 15 7 = 7 := by decide
    go_enter Tryz.func153, Tryz.ntmps153
    go_wp2_with (first | (go_at_call 199; refine (isaMod_any _ _ _ _).mono ?_; rintro e w1 ⟨rfl, hb⟩; (first | (with_reducible have hx := hb_row2 hb) | (have hx := hb_row hb)); obtain ⟨hr, hb1⟩ := hx; have HB := Lib.hid hb1; have rc := hr.cell; have rf := hr.frozen; have rl := hr.lt; clear hb hb1 hr) | (go_at_call 154; refine (isaRow_any _ _ _ _).mono ?_; rintro e w1 ⟨rfl, hb⟩; (first | (with_reducible have hx := hb_row2 hb) | (have hx := hb_row hb)); obtain ⟨hr, hb1⟩ := hx; have HB := Lib.hid hb1; have rc := hr.cell; have rf := hr.frozen; have rl := hr.lt; clear hb hb1 hr) | (go_at_call 155; refine (isaBad_any _).mono ?_; rintro e w1 ⟨rfl, hb⟩; (first | (with_reducible have hx := hb_row2 hb) | (have hx := hb_row hb)); obtain ⟨hr, hb1⟩ := hx; have HB := Lib.hid hb1; have rc := hr.cell; have rf := hr.frozen; have rl := hr.lt; clear hb hb1 hr))
    refine bodyPost_ret (v := rowV _) (by simp [results, Tryz.results153, go_sem, sumsOf, zRow, *]) rfl ⟨rfl, ?_⟩
    exact (((HB.out.setCell (Nat.le_refl _) _).setCell (Nat.le_refl _) _).setCell (Nat.le_refl _) _).setCell (Nat.le_refl _) _
  · clear hb7 h0 h1
    have hk : bits .and .u8 22 7 = 6 := by decide
    go_enter Tryz.func153, Tryz.ntmps153
    go_wp2_with (first | (go_at_call 199; refine (isaMod_any _ _ _ _).mono ?_; rintro e w1 ⟨rfl, hb⟩; (first | (with_reducible have hx := hb_row2 hb) | (have hx := hb_row hb)); obtain ⟨hr, hb1⟩ := hx; have HB := Lib.hid hb1; have rc := hr.cell; have rf := hr.frozen; have rl := hr.lt; clear hb hb1 hr) | (go_at_call 154; refine (isaRow_any _ _ _ _).mono ?_; rintro e w1 ⟨rfl, hb⟩; (first | (with_reducible have hx := hb_row2 hb) | (have hx := hb_row hb)); obtain ⟨hr, hb1⟩ := hx; have HB := Lib.hid hb1; have rc := hr.cell; have rf := hr.frozen; have rl := hr.lt; clear hb hb1 hr) | (go_at_call 155; refine (isaBad_any _).mono ?_; rintro e w1 ⟨rfl, hb⟩; (first | (with_reducible have hx := hb_row2 hb) | (have hx := hb_row hb)); obtain ⟨hr, hb1⟩ := hx; have HB := Lib.hid hb1; have rc := hr.cell; have rf := hr.frozen; have rl := hr.lt; clear hb hb1 hr))
    refine bodyPost_ret (v := rowV _) (by simp [results, Tryz.results153, go_sem, sumsOf, zRow, *]) rfl ⟨rfl, ?_⟩
    exact (((HB.out.setCell (Nat.le_refl _) _).setCell (Nat.le_refl _) _).setCell (Nat.le_refl _) _).setCell (Nat.le_refl _) _
  · clear hb7 h0 h1
    have hk : bits .and .u8 23 7 = 7 := by decide
    go_enter Tryz.func153, Tryz.ntmps153
    go_wp2_with (first | (go_at_call 199; refine (isaMod_any _ _ _ _).mono ?_; rintro e w1 ⟨rfl, hb⟩; (first | (with_reducible have hx := hb_row2 hb) | (have hx := hb_row hb)); obtain ⟨hr, hb1⟩ := hx; have HB := Lib.hid hb1; have rc := hr.cell; have rf := hr.frozen; have rl := hr.lt; clear hb hb1 hr) | (go_at_call 154; refine (isaRow_any _ _ _ _).mono ?_; rintro e w1 ⟨rfl, hb⟩; (first | (with_reducible have hx := hb_row2 hb) | (have hx := hb_row hb)); obtain ⟨hr, hb1⟩ := hx; have HB := Lib.hid hb1; have rc := hr.cell; have rf := hr.frozen; have rl := hr.lt; clear hb hb1 hr) | (go_at_call 155; refine (isaBad_any _).mono ?_; rintro e w1 ⟨rfl, hb⟩; (first | (with_reducible have hx := hb_row2 hb) | (have hx := hb_row hb)); obtain ⟨hr, hb1⟩ := hx; have HB := Lib.hid hb1; have rc := hr.cell; have rf := hr.frozen; have rl := hr.lt; clear hb hb1 hr))
    refine bodyPost_ret (v := rowV _) (by simp [results, Tryz.results153, go_sem, sumsOf, zRow, *]) rfl ⟨rfl, ?_⟩
    exact (((HB.out.setCell (Nat.le_refl _) _).setCell (Nat.le_refl _) _).setCell (Nat.le_refl _) _).setCell (Nat.le_refl _) _
  · clear hb7 h0 h1
    have hk : bits .and .u8 30 7 = 6 := by decide
    go_enter Tryz.func153, Tryz.ntmps153
    go_wp2_with (first | (go_at_call 199; refine (isaMod_any _ _ _ _).mono ?_; rintro e w1 ⟨rfl, hb⟩; (first | (with_reducible have hx := hb_row2 hb) | (have hx := hb_row hb)); obtain ⟨hr, hb1⟩ := hx; have HB := Lib.hid hb1; have rc := hr.cell; have rf := hr.frozen; have rl := hr.lt; clear hb hb1 hr) | (go_at_call 154; refine (isaRow_any _ _ _ _).mono ?_; rintro e w1 ⟨rfl, hb⟩; (first | (with_reducible have hx := hb_row2 hb) | (have hx := hb_row hb)); obtain ⟨hr, hb1⟩ := hx; have HB := Lib.hid hb1; have rc := hr.cell; have rf := hr.frozen; have rl := hr.lt; clear hb hb1 hr) | (go_at_call 155; refine (isaBad_any _).mono ?_; rintro e w1 ⟨rfl, hb⟩; (first | (with_reducible have hx := hb_row2 hb) | (have hx := hb_row hb)); obtain ⟨hr, hb1⟩ := hx; have HB := Lib.hid hb1; have rc := hr.cell; have rf := hr.frozen; have rl := hr.lt; clear hb hb1 hr))
    refine bodyPost_ret (v := rowV _) (by simp [results, Tryz.results153, go_sem, sumsOf, zRow, *]) rfl ⟨rfl, ?_⟩
    exact (((HB.out.setCell (Nat.le_refl _) _).setCell (Nat.le_refl _) _).setCell (Nat.le_refl _) _).setCell (Nat.le_refl _) _
  · clear hb7 h0 h1
    have hk : bits .and .u8 31 7 = 7 := by decide
    go_enter Tryz.func153, Tryz.ntmps153
    go_wp2_with (first | (go_at_call 199; refine (isaMod_any _ _ _ _).mono ?_; rintro e w1 ⟨rfl, hb⟩; (first | (with_reducible have hx := hb_row2 hb) | (have hx := hb_row hb)); obtain ⟨hr, hb1⟩ := hx; have HB := Lib.hid hb1; have rc := hr.cell; have rf := hr.frozen; have rl := hr.lt; clear hb hb1 hr) | (go_at_call 154; refine (isaRow_any _ _ _ _).mono ?_; rintro e w1 ⟨rfl, hb⟩; (first | (with_reducible have hx := hb_row2 hb) | (have hx := hb_row hb)); obtain ⟨hr, hb1⟩ := hx; have HB := Lib.hid hb1; have rc := hr.cell; have rf := hr.frozen; have rl := hr.lt; clear hb hb1 hr) | (go_at_call 155; refine (isaBad_any _).mono ?_; rintro e w1 ⟨rfl, hb⟩; (first | (with_reducible have hx := hb_row2 hb) | (have hx := hb_row hb)); obtain ⟨hr, hb1⟩ := hx; have HB := Lib.hid hb1; have rc := hr.cell; have rf := hr.frozen; have rl := hr.lt; clear hb hb1 hr))
    refine bodyPost_ret (v := rowV _) (by simp [results, Tryz.results153, go_sem, sumsOf, zRow, *]) rfl ⟨rfl, ?_⟩
    exact (((HB.out.setCell (Nat.le_refl _) _).setCell (Nat.le_refl _) _).setCell (Nat.le_refl _) _).setCell (Nat.le_refl _) _
  · clear hb7 h0 h1
    have hk : bits .and .u8 38 7 = 6 := by decide
    go_enter Tryz.func153, Tryz.ntmps153
    go_wp2_with (first | (go_at_call 199; refine (isaMod_any _ _ _ _).mono ?_; rintro e w1 ⟨rfl, hb⟩; (first | (with_reducible have hx := hb_row2 hb) | (have hx := hb_row hb)); obtain ⟨hr, hb1⟩ := hx; have HB := Lib.hid hb1; have rc := hr.cell; have rf := hr.frozen; have rl := hr.lt; clear hb hb1 hr) | (go_at_call 154; refine (isaRow_any _ _ _ _).mono ?_; rintro e w1 ⟨rfl, hb⟩; (first | (with_reducible have hx := hb_row2 hb) | (have hx := hb_row hb)); obtain ⟨hr, hb1⟩ := hx; have HB := Lib.hid hb1; have rc := hr.cell; have rf := hr.frozen; have rl := hr.lt; clear hb hb1 hr) | (go_at_call 155; refine (isaBad_any _).mono ?_; rintro e w1 ⟨rfl, hb⟩; (first | (with_reducible have hx := hb_row2 hb) | (have hx := hb_row hb)); obtain ⟨hr, hb1⟩ := hx; have HB := Lib.hid hb1; have rc := hr.cell; have rf := hr.frozen; have rl := hr.lt; clear hb hb1 hr))
    refine bodyPost_ret (v := rowV _) (by simp [results, Tryz.results153, go_sem, sumsOf, zRow, *]) rfl ⟨rfl, ?_⟩
    exact (((HB.out.setCell (Nat.le_refl _) _).setCell (Nat.le_refl _) _).setCell (Nat.le_refl _) _).setCell (Nat.le_refl _) _
  · clear hb7 h0 h1
    have hk : bits .and .u8 39 7 = 7 := by decide
    go_enter Tryz.func153, Tryz.ntmps153
    go_wp2_with (first | (go_at_call 199; refine (isaMod_any _ _ _ _).mono ?_; rintro e w1 ⟨rfl, hb⟩; (first | (with_reducible have hx := hb_row2 hb) | (have hx := hb_row hb)); obtain ⟨hr, hb1⟩ := hx; have HB := Lib.hid hb1; have rc := hr.cell; have rf := hr.frozen; have rl := hr.lt; clear hb hb1 hr) | (go_at_call 154; refine (isaRow_any _ _ _ _).mono ?_; rintro e w1 ⟨rfl, hb⟩; (first | (with_reducible have hx := hb_row2 hb) | (have hx := hb_row hb)); obtain ⟨hr, hb1⟩ := hx; have HB := Lib.hid hb1; have rc := hr.cell; have rf := hr.frozen; have rl := hr.lt; clear hb hb1 hr) | (go_at_call 155; refine (isaBad_any _).mono ?_; rintro e w1 ⟨rfl, hb⟩; (first | (with_reducible have hx := hb_row2 hb) | (have hx := hb_row hb)); obtain ⟨hr, hb1⟩ := hx; have HB := Lib.hid hb1; have rc := hr.cell; have rf := hr.frozen; have rl := hr.lt; clear hb hb1 hr))
    refine bodyPost_ret (v := rowV _) (by simp [results, Tryz.results153, go_sem, sumsOf, zRow, *]) rfl ⟨rfl, ?_⟩
    exact (((HB.out.setCell (Nat.le_refl _) _).setCell (Nat.le_refl _) _).setCell (Nat.le_refl _) _).setCell (Nat.le_refl _) _
  · clear hb7 h0 h1
    have hk : bits .and .u8 46 7 = 6 := by decide
    go_enter Tryz.func153, Tryz.ntmps153
    go_wp2_with (first | (go_at_call 199; refine (isaMod_any _ _ _ _).mono ?_; rintro e w1 ⟨rfl, hb⟩; (first | (with_reducible have hx := hb_row2 hb) | (have hx := hb_row hb)); obtain ⟨hr, hb1⟩ := hx; have HB := Lib.hid hb1; have rc := hr.cell; have rf := hr.frozen; have rl := hr.lt; clear hb hb1 hr) | (go_at_call 154; refine (isaRow_any _ _ _ _).mono ?_; rintro e w1 ⟨rfl, hb⟩; (first | (with_reducible have hx := hb_row2 hb) | (have hx := hb_row hb)); obtain ⟨hr, hb1⟩ := hx; have HB := Lib.hid hb1; have rc := hr.cell; have rf := hr.frozen; have rl := hr.lt; clear hb hb1 hr) | (go_at_call 155; refine (isaBad_any _).mono ?_; rintro e w1 ⟨rfl, hb⟩; (first | (with_reducible have hx := hb_row2 hb) | (have hx := hb_row hb)); obtain ⟨hr, hb1⟩ := hx; have HB := Lib.hid hb1; have rc := hr.cell; have rf := hr.frozen; have rl := hr.lt; clear hb hb1 hr))
    refine bodyPost_ret (v := rowV _) (by simp [results, Tryz.results153, go_sem, sumsOf, zRow, *]) rfl ⟨rfl, ?_⟩
    exact (((HB.out.setCell (Nat.le_refl _) _).setCell (Nat.le_refl _) _).setCell (Nat.le_refl _) _).setCell (Nat.le_refl _) _
  · clear hb7 h0 h1
    have hk : bits .and .u8 47 7 = 7 := by decide
    go_enter Tryz.func153, Tryz.ntmps153
    go_wp2_with (first | (go_at_call 199; refine (isaMod_any _ _ _ _).mono ?_; rintro e w1 ⟨rfl, hb⟩; (first | (with_reducible have hx := hb_row2 hb) | (have hx := hb_row hb)); obtain ⟨hr, hb1⟩ := hx; have HB := Lib.hid hb1; have rc := hr.cell; have rf := hr.frozen; have rl := hr.lt; clear hb hb1 hr) | (go_at_call 154; refine (isaRow_any _ _ _ _).mono ?_; rintro e w1 ⟨rfl, hb⟩; (first | (with_reducible have hx := hb_row2 hb) | (have hx := hb_row hb)); obtain ⟨hr, hb1⟩ := hx; have HB := Lib.hid hb1; have rc := hr.cell; have rf := hr.frozen; have rl := hr.lt; clear hb hb1 hr) | (go_at_call 155; refine (isaBad_any _).mono ?_; rintro e w1 ⟨rfl, hb⟩; (first | (with_reducible have hx := hb_row2 hb) | (have hx := hb_row hb)); obtain ⟨hr, hb1⟩ := hx; have HB := Lib.hid hb1; have rc := hr.cell; have rf := hr.frozen; have rl := hr.lt; clear hb hb1 hr))
    refine bodyPost_ret (v := rowV _) (by simp [results, Tryz.results153, go_sem, sumsOf, zRow, *]) rfl ⟨rfl, ?_⟩
    exact (((HB.out.setCell (Nat.le_refl _) _).setCell (Nat.le_refl _) _).setCell (Nat.le_refl _) _).setCell (Nat.le_refl _) _
  · clear hb7 h0 h1
    have hk : bits .and .u8 54 7 = 6 := by decide
    go_enter Tryz.func153, Tryz.ntmps153
    go_wp2_with (first | (go_at_call 199; refine (isaMod_any _ _ _ _).mono ?_; rintro e w1 ⟨rfl, hb⟩; (first | (with_reducible have hx := hb_row2 hb) | (have hx := hb_row hb)); obtain ⟨hr, hb1⟩ := hx; have HB := Lib.hid hb1; have rc := hr.cell; have rf := hr.frozen; have rl := hr.lt; clear hb hb1 hr) | (go_at_call 154; refine (isaRow_any _ _ _ _).mono ?_; rintro e w1 ⟨rfl, hb⟩; (first | (with_reducible have hx := hb_row2 hb) | (have hx := hb_row hb)); obtain ⟨hr, hb1⟩ := hx; have HB := Lib.hid hb1; have rc := hr.cell; have rf := hr.frozen; have rl := hr.lt; clear hb hb1 hr) | (go_at_call 155; refine (isaBad_any _).mono ?_; rintro e w1 ⟨rfl, hb⟩; (first | (with_reducible have hx := hb_row2 hb) | (have hx := hb_row hb)); obtain ⟨hr, hb1⟩ := hx; have HB := Lib.hid hb1; have rc := hr.cell; have rf := hr.frozen; have rl := hr.lt; clear hb hb1 hr))
    refine bodyPost_ret (v := rowV _) (by simp [results, Tryz.results153, go_sem, sumsOf, zRow, *]) rfl ⟨rfl, ?_⟩
    exact (((HB.out.setCell (Nat.le_refl _) _).setCell (Nat.le_refl _) _).setCell (Nat.le_refl _) _).setCell (Nat.le_refl _) _
  · clear hb7 h0 h1
    have hk : bits .and .u8 55 7 = 7 := by decide
    go_enter Tryz.func153, Tryz.ntmps153
    go_wp2_with (first | (go_at_call 199; refine (isaMod_any _ _ _ _).mono ?_; rintro e w1 ⟨rfl, hb⟩; (first | (with_reducible have hx := hb_row2 hb) | (have hx := hb_row hb)); obtain ⟨hr, hb1⟩ := hx; have HB := Lib.hid hb1; have rc := hr.cell; have rf := hr.frozen; have rl := hr.lt; clear hb hb1 hr) | (go_at_call 154; refine (isaRow_any _ _ _ _).mono ?_; rintro e w1 ⟨rfl, hb⟩; (first | (with_reducible have hx := hb_row2 hb) | (have hx := hb_row hb)); obtain ⟨hr, hb1⟩ := hx; have HB := Lib.hid hb1; have rc := hr.cell; have rf := hr.frozen; have rl := hr.lt; clear hb hb1 hr) | (go_at_call 155; refine (isaBad_any _).mono ?_; rintro e w1 ⟨rfl, hb⟩; (first | (with_reducible have hx := hb_row2 hb) | (have hx := hb_row hb)); obtain ⟨hr, hb1⟩ := hx; have HB := Lib.hid hb1; have rc := hr.cell; have rf := hr.frozen; have rl := hr.lt; clear hb hb1 hr))
    refine bodyPost_ret (v := rowV _) (by simp [results, Tryz.results153, go_sem, sumsOf, zRow, *]) rfl ⟨rfl, ?_⟩
    exact (((HB.out.setCell (Nat.le_refl _) _).setCell (Nat.le_refl _) _).setCell (Nat.le_refl _) _).setCell (Nat.le_refl _) _
  · clear hb7 h0 h1
    have hk : bits .and .u8 62 7 = 6 := by decide
    go_enter Tryz.func153, Tryz.ntmps153
    go_wp2_with (first | (go_at_call 199; refine (isaMod_any _ _ _ _).mono ?_; rintro e w1 ⟨rfl, hb⟩; (first | (with_reducible have hx := hb_row2 hb) | (have hx := hb_row hb)); obtain ⟨hr, hb1⟩ := hx; have HB := Lib.hid hb1; have rc := hr.cell; have rf := hr.frozen; have rl := hr.lt; clear hb hb1 hr) | (go_at_call 154; refine (isaRow_any _ _ _ _).mono ?_; rintro e w1 ⟨rfl, hb⟩; (first | (with_reducible have hx := hb_row2 hb) | (have hx := hb_row hb)); obtain ⟨hr, hb1⟩ := hx; have HB := Lib.hid hb1; have rc := hr.cell; have rf := hr.frozen; have rl := hr.lt; clear hb hb1 hr) | (go_at_call 155; refine (isaBad_any _).mono ?_; rintro e w1 ⟨rfl, hb⟩; (first | (with_reducible have hx := hb_row2 hb) | (have hx := hb_row hb)); obtain ⟨hr, hb1⟩ := hx; have HB := Lib.hid hb1; have rc := hr.cell; have rf := hr.frozen; have rl := hr.lt; clear hb hb1 hr))
    refine bodyPost_ret (v := rowV _) (by simp [results, Tryz.results153, go_sem, sumsOf, zRow, *]) rfl ⟨rfl, ?_⟩
    exact (((HB.out.setCell (Nat.le_refl _) _).setCell (Nat.le_refl _) _).setCell (Nat.le_refl _) _).setCell (Nat.le_refl _) _
  · clear hb7 h0 h1
    have hk : bits .and .u8 63 7 = 7 := by decide
    go_enter Tryz.func153, Tryz.ntmps153
    go_wp2_with (first | (go_at_call 199; refine (isaMod_any _ _ _ _).mono ?_; rintro e w1 ⟨rfl, hb⟩; (first | (with_reducible have hx := hb_row2 hb) | (have hx := hb_row hb)); obtain ⟨hr, hb1⟩ := hx; have HB := Lib.hid hb1; have rc := hr.cell; have rf := hr.frozen; have rl := hr.lt; clear hb hb1 hr) | (go_at_call 154; refine (isaRow_any _ _ _ _).mono ?_; rintro e w1 ⟨rfl, hb⟩; (first | (with_reducible have hx := hb_row2 hb) | (have hx := hb_row hb)); obtain ⟨hr, hb1⟩ := hx; have HB := Lib.hid hb1; have rc := hr.cell; have rf := hr.frozen; have rl := hr.lt; clear hb hb1 hr) | (go_at_call 155; refine (isaBad_any _).mono ?_; rintro e w1 ⟨rfl, hb⟩; (first | (with_reducible have hx := hb_row2 hb) | (have hx := hb_row hb)); obtain ⟨hr, hb1⟩ := hx; have HB := Lib.hid hb1; have rc := hr.cell; have rf := hr.frozen; have rl := hr.lt; clear hb hb1 hr))
    refine bodyPost_ret (v := rowV _) (by simp [results, Tryz.results153, go_sem, sumsOf, zRow, *]) rfl ⟨rfl, ?_⟩
    exact (((HB.out.setCell (Nat.le_refl _) _).setCell (Nat.le_refl _) _).setCell (Nat.le_refl _) _).setCell (Nat.le_refl _) _
end Go.Proofs.YtcglkefaopgjeaaGreatDoor

/- Package isa, continued: moves, words, texts. -/
namespace Go.Proofs.YtcglkefaopgjeaaGreatDoor
set_option linter.unusedSimpArgs false
set_option linter.unusedVariables false
open Go.RowKit



set_option maxRecDepth 100000 in
set_option maxHeartbeats 8000000 in
theorem moves_any (op reg : Int) (w : World) (h0 : 128 ≤ op) (h1 : op < 144) (r0 : 0 ≤ reg) (r1 : reg ≤ 7) : Calls Tryz.prog 156 #[.int .u8 op, .int .i64 reg] w fun e w' => e = .returned (rowV (movesOf op reg)) ∧ Below w.heap.size w w' := by
  have hc : op = 128 ∨ op = 129 ∨ op = 130 ∨ op = 131 ∨ op = 132 ∨ op = 133 ∨ op = 134 ∨ op = 135 ∨ op = 136 ∨ op = 137 ∨ op = 138 ∨ op = 139 ∨ op = 140 ∨ op = 141 ∨ op = 142 ∨ op = 143 := by omega
  have hr : reg = 0 ∨ reg = 1 ∨ reg = 2 ∨ reg = 3 ∨ reg = 4 ∨ reg = 5 ∨ reg = 6 ∨ reg = 7 := by omega
  clear h0 h1
  rcases hc with rfl | rfl | rfl | rfl | rfl | rfl | rfl | rfl | rfl | rfl | rfl | rfl | rfl | rfl | rfl | rfl
  · clear hr
    go_enter Tryz.func156, Tryz.ntmps156
    go_wp2_with (first | (go_at_call 199; refine (isaMod_any _ _ _ _).mono ?_; rintro e w1 ⟨rfl, hb⟩; (first | (with_reducible have hx := hb_row2 hb) | (have hx := hb_row hb)); obtain ⟨hr, hb1⟩ := hx; have HB := Lib.hid hb1; have rc := hr.cell; have rf := hr.frozen; have rl := hr.lt; clear hb hb1 hr) | (go_at_call 154; refine (isaRow_any _ _ _ _).mono ?_; rintro e w1 ⟨rfl, hb⟩; (first | (with_reducible have hx := hb_row2 hb) | (have hx := hb_row hb)); obtain ⟨hr, hb1⟩ := hx; have HB := Lib.hid hb1; have rc := hr.cell; have rf := hr.frozen; have rl := hr.lt; clear hb hb1 hr) | (go_at_call 155; refine (isaBad_any _).mono ?_; rintro e w1 ⟨rfl, hb⟩; (first | (with_reducible have hx := hb_row2 hb) | (have hx := hb_row hb)); obtain ⟨hr, hb1⟩ := hx; have HB := Lib.hid hb1; have rc := hr.cell; have rf := hr.frozen; have rl := hr.lt; clear hb hb1 hr))
    refine bodyPost_ret (v := rowV _) (by simp [results, Tryz.results156, go_sem, movesOf, zRow, *]) rfl ⟨rfl, ?_⟩
    exact (((HB.out.setCell (Nat.le_refl _) _).setCell (Nat.le_refl _) _).setCell (Nat.le_refl _) _).setCell (Nat.le_refl _) _
  · clear hr
    go_enter Tryz.func156, Tryz.ntmps156
    go_wp2_with (first | (go_at_call 199; refine (isaMod_any _ _ _ _).mono ?_; rintro e w1 ⟨rfl, hb⟩; (first | (with_reducible have hx := hb_row2 hb) | (have hx := hb_row hb)); obtain ⟨hr, hb1⟩ := hx; have HB := Lib.hid hb1; have rc := hr.cell; have rf := hr.frozen; have rl := hr.lt; clear hb hb1 hr) | (go_at_call 154; refine (isaRow_any _ _ _ _).mono ?_; rintro e w1 ⟨rfl, hb⟩; (first | (with_reducible have hx := hb_row2 hb) | (have hx := hb_row hb)); obtain ⟨hr, hb1⟩ := hx; have HB := Lib.hid hb1; have rc := hr.cell; have rf := hr.frozen; have rl := hr.lt; clear hb hb1 hr) | (go_at_call 155; refine (isaBad_any _).mono ?_; rintro e w1 ⟨rfl, hb⟩; (first | (with_reducible have hx := hb_row2 hb) | (have hx := hb_row hb)); obtain ⟨hr, hb1⟩ := hx; have HB := Lib.hid hb1; have rc := hr.cell; have rf := hr.frozen; have rl := hr.lt; clear hb hb1 hr))
    refine bodyPost_ret (v := rowV _) (by simp [results, Tryz.results156, go_sem, movesOf, zRow, *]) rfl ⟨rfl, ?_⟩
    exact (((HB.out.setCell (Nat.le_refl _) _).setCell (Nat.le_refl _) _).setCell (Nat.le_refl _) _).setCell (Nat.le_refl _) _
  · clear hr
    go_enter Tryz.func156, Tryz.ntmps156
    go_wp2_with (first | (go_at_call 199; refine (isaMod_any _ _ _ _).mono ?_; rintro e w1 ⟨rfl, hb⟩; (first | (with_reducible have hx := hb_row2 hb) | (have hx := hb_row hb)); obtain ⟨hr, hb1⟩ := hx; have HB := Lib.hid hb1; have rc := hr.cell; have rf := hr.frozen; have rl := hr.lt; clear hb hb1 hr) | (go_at_call 154; refine (isaRow_any _ _ _ _).mono ?_; rintro e w1 ⟨rfl, hb⟩; (first | (with_reducible have hx := hb_row2 hb) | (have hx := hb_row hb)); obtain ⟨hr, hb1⟩ := hx; have HB := Lib.hid hb1; have rc := hr.cell; have rf := hr.frozen; have rl := hr.lt; clear hb hb1 hr) | (go_at_call 155; refine (isaBad_any _).mono ?_; rintro e w1 ⟨rfl, hb⟩; (first | (with_reducible have hx := hb_row2 hb) | (have hx := hb_row hb)); obtain ⟨hr, hb1⟩ := hx; have HB := Lib.hid hb1; have rc := hr.cell; have rf := hr.frozen; have rl := hr.lt; clear hb hb1 hr))
    refine bodyPost_ret (v := rowV _) (by simp [results, Tryz.results156, go_sem, movesOf, zRow, *]) rfl ⟨rfl, ?_⟩
    exact (((HB.out.setCell (Nat.le_refl _) _).setCell (Nat.le_refl _) _).setCell (Nat.le_refl _) _).setCell (Nat.le_refl _) _
  · clear r0 r1
    rcases hr with rfl | rfl | rfl | rfl | rfl | rfl | rfl | rfl
    all_goals
      go_enter Tryz.func156, Tryz.ntmps156
      go_wp2_with (first | (go_at_call 199; refine (isaMod_any _ _ _ _).mono ?_; rintro e w1 ⟨rfl, hb⟩; (first | (with_reducible have hx := hb_row2 hb) | (have hx := hb_row hb)); obtain ⟨hr, hb1⟩ := hx; have HB := Lib.hid hb1; have rc := hr.cell; have rf := hr.frozen; have rl := hr.lt; clear hb hb1 hr) | (go_at_call 154; refine (isaRow_any _ _ _ _).mono ?_; rintro e w1 ⟨rfl, hb⟩; (first | (with_reducible have hx := hb_row2 hb) | (have hx := hb_row hb)); obtain ⟨hr, hb1⟩ := hx; have HB := Lib.hid hb1; have rc := hr.cell; have rf := hr.frozen; have rl := hr.lt; clear hb hb1 hr) | (go_at_call 155; refine (isaBad_any _).mono ?_; rintro e w1 ⟨rfl, hb⟩; (first | (with_reducible have hx := hb_row2 hb) | (have hx := hb_row hb)); obtain ⟨hr, hb1⟩ := hx; have HB := Lib.hid hb1; have rc := hr.cell; have rf := hr.frozen; have rl := hr.lt; clear hb hb1 hr))
      refine bodyPost_ret (v := rowV _) (by simp [results, Tryz.results156, go_sem, movesOf, zRow, *]) rfl ⟨rfl, ?_⟩
      exact (((HB.out.setCell (Nat.le_refl _) _).setCell (Nat.le_refl _) _).setCell (Nat.le_refl _) _).setCell (Nat.le_refl _) _
  · clear hr
    go_enter Tryz.func156, Tryz.ntmps156
    go_wp2_with (first | (go_at_call 199; refine (isaMod_any _ _ _ _).mono ?_; rintro e w1 ⟨rfl, hb⟩; (first | (with_reducible have hx := hb_row2 hb) | (have hx := hb_row hb)); obtain ⟨hr, hb1⟩ := hx; have HB := Lib.hid hb1; have rc := hr.cell; have rf := hr.frozen; have rl := hr.lt; clear hb hb1 hr) | (go_at_call 154; refine (isaRow_any _ _ _ _).mono ?_; rintro e w1 ⟨rfl, hb⟩; (first | (with_reducible have hx := hb_row2 hb) | (have hx := hb_row hb)); obtain ⟨hr, hb1⟩ := hx; have HB := Lib.hid hb1; have rc := hr.cell; have rf := hr.frozen; have rl := hr.lt; clear hb hb1 hr) | (go_at_call 155; refine (isaBad_any _).mono ?_; rintro e w1 ⟨rfl, hb⟩; (first | (with_reducible have hx := hb_row2 hb) | (have hx := hb_row hb)); obtain ⟨hr, hb1⟩ := hx; have HB := Lib.hid hb1; have rc := hr.cell; have rf := hr.frozen; have rl := hr.lt; clear hb hb1 hr))
    refine bodyPost_ret (v := rowV _) (by simp [results, Tryz.results156, go_sem, movesOf, zRow, *]) rfl ⟨rfl, ?_⟩
    exact (((HB.out.setCell (Nat.le_refl _) _).setCell (Nat.le_refl _) _).setCell (Nat.le_refl _) _).setCell (Nat.le_refl _) _
  · clear hr
    go_enter Tryz.func156, Tryz.ntmps156
    go_wp2_with (first | (go_at_call 199; refine (isaMod_any _ _ _ _).mono ?_; rintro e w1 ⟨rfl, hb⟩; (first | (with_reducible have hx := hb_row2 hb) | (have hx := hb_row hb)); obtain ⟨hr, hb1⟩ := hx; have HB := Lib.hid hb1; have rc := hr.cell; have rf := hr.frozen; have rl := hr.lt; clear hb hb1 hr) | (go_at_call 154; refine (isaRow_any _ _ _ _).mono ?_; rintro e w1 ⟨rfl, hb⟩; (first | (with_reducible have hx := hb_row2 hb) | (have hx := hb_row hb)); obtain ⟨hr, hb1⟩ := hx; have HB := Lib.hid hb1; have rc := hr.cell; have rf := hr.frozen; have rl := hr.lt; clear hb hb1 hr) | (go_at_call 155; refine (isaBad_any _).mono ?_; rintro e w1 ⟨rfl, hb⟩; (first | (with_reducible have hx := hb_row2 hb) | (have hx := hb_row hb)); obtain ⟨hr, hb1⟩ := hx; have HB := Lib.hid hb1; have rc := hr.cell; have rf := hr.frozen; have rl := hr.lt; clear hb hb1 hr))
    refine bodyPost_ret (v := rowV _) (by simp [results, Tryz.results156, go_sem, movesOf, zRow, *]) rfl ⟨rfl, ?_⟩
    exact (((HB.out.setCell (Nat.le_refl _) _).setCell (Nat.le_refl _) _).setCell (Nat.le_refl _) _).setCell (Nat.le_refl _) _
  · clear hr
    go_enter Tryz.func156, Tryz.ntmps156
    go_wp2_with (first | (go_at_call 199; refine (isaMod_any _ _ _ _).mono ?_; rintro e w1 ⟨rfl, hb⟩; (first | (with_reducible have hx := hb_row2 hb) | (have hx := hb_row hb)); obtain ⟨hr, hb1⟩ := hx; have HB := Lib.hid hb1; have rc := hr.cell; have rf := hr.frozen; have rl := hr.lt; clear hb hb1 hr) | (go_at_call 154; refine (isaRow_any _ _ _ _).mono ?_; rintro e w1 ⟨rfl, hb⟩; (first | (with_reducible have hx := hb_row2 hb) | (have hx := hb_row hb)); obtain ⟨hr, hb1⟩ := hx; have HB := Lib.hid hb1; have rc := hr.cell; have rf := hr.frozen; have rl := hr.lt; clear hb hb1 hr) | (go_at_call 155; refine (isaBad_any _).mono ?_; rintro e w1 ⟨rfl, hb⟩; (first | (with_reducible have hx := hb_row2 hb) | (have hx := hb_row hb)); obtain ⟨hr, hb1⟩ := hx; have HB := Lib.hid hb1; have rc := hr.cell; have rf := hr.frozen; have rl := hr.lt; clear hb hb1 hr))
    refine bodyPost_ret (v := rowV _) (by simp [results, Tryz.results156, go_sem, movesOf, zRow, *]) rfl ⟨rfl, ?_⟩
    exact (((HB.out.setCell (Nat.le_refl _) _).setCell (Nat.le_refl _) _).setCell (Nat.le_refl _) _).setCell (Nat.le_refl _) _
  · clear hr
    go_enter Tryz.func156, Tryz.ntmps156
    go_wp2_with (first | (go_at_call 199; refine (isaMod_any _ _ _ _).mono ?_; rintro e w1 ⟨rfl, hb⟩; (first | (with_reducible have hx := hb_row2 hb) | (have hx := hb_row hb)); obtain ⟨hr, hb1⟩ := hx; have HB := Lib.hid hb1; have rc := hr.cell; have rf := hr.frozen; have rl := hr.lt; clear hb hb1 hr) | (go_at_call 154; refine (isaRow_any _ _ _ _).mono ?_; rintro e w1 ⟨rfl, hb⟩; (first | (with_reducible have hx := hb_row2 hb) | (have hx := hb_row hb)); obtain ⟨hr, hb1⟩ := hx; have HB := Lib.hid hb1; have rc := hr.cell; have rf := hr.frozen; have rl := hr.lt; clear hb hb1 hr) | (go_at_call 155; refine (isaBad_any _).mono ?_; rintro e w1 ⟨rfl, hb⟩; (first | (with_reducible have hx := hb_row2 hb) | (have hx := hb_row hb)); obtain ⟨hr, hb1⟩ := hx; have HB := Lib.hid hb1; have rc := hr.cell; have rf := hr.frozen; have rl := hr.lt; clear hb hb1 hr))
    refine bodyPost_ret (v := rowV _) (by simp [results, Tryz.results156, go_sem, movesOf, zRow, *]) rfl ⟨rfl, ?_⟩
    exact (((HB.out.setCell (Nat.le_refl _) _).setCell (Nat.le_refl _) _).setCell (Nat.le_refl _) _).setCell (Nat.le_refl _) _
  · clear hr
    go_enter Tryz.func156, Tryz.ntmps156
    go_wp2_with (first | (go_at_call 199; refine (isaMod_any _ _ _ _).mono ?_; rintro e w1 ⟨rfl, hb⟩; (first | (with_reducible have hx := hb_row2 hb) | (have hx := hb_row hb)); obtain ⟨hr, hb1⟩ := hx; have HB := Lib.hid hb1; have rc := hr.cell; have rf := hr.frozen; have rl := hr.lt; clear hb hb1 hr) | (go_at_call 154; refine (isaRow_any _ _ _ _).mono ?_; rintro e w1 ⟨rfl, hb⟩; (first | (with_reducible have hx := hb_row2 hb) | (have hx := hb_row hb)); obtain ⟨hr, hb1⟩ := hx; have HB := Lib.hid hb1; have rc := hr.cell; have rf := hr.frozen; have rl := hr.lt; clear hb hb1 hr) | (go_at_call 155; refine (isaBad_any _).mono ?_; rintro e w1 ⟨rfl, hb⟩; (first | (with_reducible have hx := hb_row2 hb) | (have hx := hb_row hb)); obtain ⟨hr, hb1⟩ := hx; have HB := Lib.hid hb1; have rc := hr.cell; have rf := hr.frozen; have rl := hr.lt; clear hb hb1 hr))
    refine bodyPost_ret (v := rowV _) (by simp [results, Tryz.results156, go_sem, movesOf, zRow, *]) rfl ⟨rfl, ?_⟩
    exact (((HB.out.setCell (Nat.le_refl _) _).setCell (Nat.le_refl _) _).setCell (Nat.le_refl _) _).setCell (Nat.le_refl _) _
  · clear hr
    go_enter Tryz.func156, Tryz.ntmps156
    go_wp2_with (first | (go_at_call 199; refine (isaMod_any _ _ _ _).mono ?_; rintro e w1 ⟨rfl, hb⟩; (first | (with_reducible have hx := hb_row2 hb) | (have hx := hb_row hb)); obtain ⟨hr, hb1⟩ := hx; have HB := Lib.hid hb1; have rc := hr.cell; have rf := hr.frozen; have rl := hr.lt; clear hb hb1 hr) | (go_at_call 154; refine (isaRow_any _ _ _ _).mono ?_; rintro e w1 ⟨rfl, hb⟩; (first | (with_reducible have hx := hb_row2 hb) | (have hx := hb_row hb)); obtain ⟨hr, hb1⟩ := hx; have HB := Lib.hid hb1; have rc := hr.cell; have rf := hr.frozen; have rl := hr.lt; clear hb hb1 hr) | (go_at_call 155; refine (isaBad_any _).mono ?_; rintro e w1 ⟨rfl, hb⟩; (first | (with_reducible have hx := hb_row2 hb) | (have hx := hb_row hb)); obtain ⟨hr, hb1⟩ := hx; have HB := Lib.hid hb1; have rc := hr.cell; have rf := hr.frozen; have rl := hr.lt; clear hb hb1 hr))
    refine bodyPost_ret (v := rowV _) (by simp [results, Tryz.results156, go_sem, movesOf, zRow, *]) rfl ⟨rfl, ?_⟩
    exact (((HB.out.setCell (Nat.le_refl _) _).setCell (Nat.le_refl _) _).setCell (Nat.le_refl _) _).setCell (Nat.le_refl _) _
  · clear hr
    go_enter Tryz.func156, Tryz.ntmps156
    go_wp2_with (first | (go_at_call 199; refine (isaMod_any _ _ _ _).mono ?_; rintro e w1 ⟨rfl, hb⟩; (first | (with_reducible have hx := hb_row2 hb) | (have hx := hb_row hb)); obtain ⟨hr, hb1⟩ := hx; have HB := Lib.hid hb1; have rc := hr.cell; have rf := hr.frozen; have rl := hr.lt; clear hb hb1 hr) | (go_at_call 154; refine (isaRow_any _ _ _ _).mono ?_; rintro e w1 ⟨rfl, hb⟩; (first | (with_reducible have hx := hb_row2 hb) | (have hx := hb_row hb)); obtain ⟨hr, hb1⟩ := hx; have HB := Lib.hid hb1; have rc := hr.cell; have rf := hr.frozen; have rl := hr.lt; clear hb hb1 hr) | (go_at_call 155; refine (isaBad_any _).mono ?_; rintro e w1 ⟨rfl, hb⟩; (first | (with_reducible have hx := hb_row2 hb) | (have hx := hb_row hb)); obtain ⟨hr, hb1⟩ := hx; have HB := Lib.hid hb1; have rc := hr.cell; have rf := hr.frozen; have rl := hr.lt; clear hb hb1 hr))
    refine bodyPost_ret (v := rowV _) (by simp [results, Tryz.results156, go_sem, movesOf, zRow, *]) rfl ⟨rfl, ?_⟩
    exact (((HB.out.setCell (Nat.le_refl _) _).setCell (Nat.le_refl _) _).setCell (Nat.le_refl _) _).setCell (Nat.le_refl _) _
  · clear hr
    go_enter Tryz.func156, Tryz.ntmps156
    go_wp2_with (first | (go_at_call 199; refine (isaMod_any _ _ _ _).mono ?_; rintro e w1 ⟨rfl, hb⟩; (first | (with_reducible have hx := hb_row2 hb) | (have hx := hb_row hb)); obtain ⟨hr, hb1⟩ := hx; have HB := Lib.hid hb1; have rc := hr.cell; have rf := hr.frozen; have rl := hr.lt; clear hb hb1 hr) | (go_at_call 154; refine (isaRow_any _ _ _ _).mono ?_; rintro e w1 ⟨rfl, hb⟩; (first | (with_reducible have hx := hb_row2 hb) | (have hx := hb_row hb)); obtain ⟨hr, hb1⟩ := hx; have HB := Lib.hid hb1; have rc := hr.cell; have rf := hr.frozen; have rl := hr.lt; clear hb hb1 hr) | (go_at_call 155; refine (isaBad_any _).mono ?_; rintro e w1 ⟨rfl, hb⟩; (first | (with_reducible have hx := hb_row2 hb) | (have hx := hb_row hb)); obtain ⟨hr, hb1⟩ := hx; have HB := Lib.hid hb1; have rc := hr.cell; have rf := hr.frozen; have rl := hr.lt; clear hb hb1 hr))
    refine bodyPost_ret (v := rowV _) (by simp [results, Tryz.results156, go_sem, movesOf, zRow, *]) rfl ⟨rfl, ?_⟩
    exact (((HB.out.setCell (Nat.le_refl _) _).setCell (Nat.le_refl _) _).setCell (Nat.le_refl _) _).setCell (Nat.le_refl _) _
  · clear r0 r1
    rcases hr with rfl | rfl | rfl | rfl | rfl | rfl | rfl | rfl
    all_goals
      go_enter Tryz.func156, Tryz.ntmps156
      go_wp2_with (first | (go_at_call 199; refine (isaMod_any _ _ _ _).mono ?_; rintro e w1 ⟨rfl, hb⟩; (first | (with_reducible have hx := hb_row2 hb) | (have hx := hb_row hb)); obtain ⟨hr, hb1⟩ := hx; have HB := Lib.hid hb1; have rc := hr.cell; have rf := hr.frozen; have rl := hr.lt; clear hb hb1 hr) | (go_at_call 154; refine (isaRow_any _ _ _ _).mono ?_; rintro e w1 ⟨rfl, hb⟩; (first | (with_reducible have hx := hb_row2 hb) | (have hx := hb_row hb)); obtain ⟨hr, hb1⟩ := hx; have HB := Lib.hid hb1; have rc := hr.cell; have rf := hr.frozen; have rl := hr.lt; clear hb hb1 hr) | (go_at_call 155; refine (isaBad_any _).mono ?_; rintro e w1 ⟨rfl, hb⟩; (first | (with_reducible have hx := hb_row2 hb) | (have hx := hb_row hb)); obtain ⟨hr, hb1⟩ := hx; have HB := Lib.hid hb1; have rc := hr.cell; have rf := hr.frozen; have rl := hr.lt; clear hb hb1 hr))
      refine bodyPost_ret (v := rowV _) (by simp [results, Tryz.results156, go_sem, movesOf, zRow, *]) rfl ⟨rfl, ?_⟩
      exact (((HB.out.setCell (Nat.le_refl _) _).setCell (Nat.le_refl _) _).setCell (Nat.le_refl _) _).setCell (Nat.le_refl _) _
  · clear hr
    go_enter Tryz.func156, Tryz.ntmps156
    go_wp2_with (first | (go_at_call 199; refine (isaMod_any _ _ _ _).mono ?_; rintro e w1 ⟨rfl, hb⟩; (first | (with_reducible have hx := hb_row2 hb) | (have hx := hb_row hb)); obtain ⟨hr, hb1⟩ := hx; have HB := Lib.hid hb1; have rc := hr.cell; have rf := hr.frozen; have rl := hr.lt; clear hb hb1 hr) | (go_at_call 154; refine (isaRow_any _ _ _ _).mono ?_; rintro e w1 ⟨rfl, hb⟩; (first | (with_reducible have hx := hb_row2 hb) | (have hx := hb_row hb)); obtain ⟨hr, hb1⟩ := hx; have HB := Lib.hid hb1; have rc := hr.cell; have rf := hr.frozen; have rl := hr.lt; clear hb hb1 hr) | (go_at_call 155; refine (isaBad_any _).mono ?_; rintro e w1 ⟨rfl, hb⟩; (first | (with_reducible have hx := hb_row2 hb) | (have hx := hb_row hb)); obtain ⟨hr, hb1⟩ := hx; have HB := Lib.hid hb1; have rc := hr.cell; have rf := hr.frozen; have rl := hr.lt; clear hb hb1 hr))
    refine bodyPost_ret (v := rowV _) (by simp [results, Tryz.results156, go_sem, movesOf, zRow, *]) rfl ⟨rfl, ?_⟩
    exact (((HB.out.setCell (Nat.le_refl _) _).setCell (Nat.le_refl _) _).setCell (Nat.le_refl _) _).setCell (Nat.le_refl _) _
  · clear r0 r1
    rcases hr with rfl | rfl | rfl | rfl | rfl | rfl | rfl | rfl
    all_goals
      go_enter Tryz.func156, Tryz.ntmps156
      go_wp2_with (first | (go_at_call 199; refine (isaMod_any _ _ _ _).mono ?_; rintro e w1 ⟨rfl, hb⟩; (first | (with_reducible have hx := hb_row2 hb) | (have hx := hb_row hb)); obtain ⟨hr, hb1⟩ := hx; have HB := Lib.hid hb1; have rc := hr.cell; have rf := hr.frozen; have rl := hr.lt; clear hb hb1 hr) | (go_at_call 154; refine (isaRow_any _ _ _ _).mono ?_; rintro e w1 ⟨rfl, hb⟩; (first | (with_reducible have hx := hb_row2 hb) | (have hx := hb_row hb)); obtain ⟨hr, hb1⟩ := hx; have HB := Lib.hid hb1; have rc := hr.cell; have rf := hr.frozen; have rl := hr.lt; clear hb hb1 hr) | (go_at_call 155; refine (isaBad_any _).mono ?_; rintro e w1 ⟨rfl, hb⟩; (first | (with_reducible have hx := hb_row2 hb) | (have hx := hb_row hb)); obtain ⟨hr, hb1⟩ := hx; have HB := Lib.hid hb1; have rc := hr.cell; have rf := hr.frozen; have rl := hr.lt; clear hb hb1 hr))
      refine bodyPost_ret (v := rowV _) (by simp [results, Tryz.results156, go_sem, movesOf, zRow, *]) rfl ⟨rfl, ?_⟩
      exact (((HB.out.setCell (Nat.le_refl _) _).setCell (Nat.le_refl _) _).setCell (Nat.le_refl _) _).setCell (Nat.le_refl _) _
  · clear r0 r1
    rcases hr with rfl | rfl | rfl | rfl | rfl | rfl | rfl | rfl
    all_goals
      go_enter Tryz.func156, Tryz.ntmps156
      go_wp2_with (first | (go_at_call 199; refine (isaMod_any _ _ _ _).mono ?_; rintro e w1 ⟨rfl, hb⟩; (first | (with_reducible have hx := hb_row2 hb) | (have hx := hb_row hb)); obtain ⟨hr, hb1⟩ := hx; have HB := Lib.hid hb1; have rc := hr.cell; have rf := hr.frozen; have rl := hr.lt; clear hb hb1 hr) | (go_at_call 154; refine (isaRow_any _ _ _ _).mono ?_; rintro e w1 ⟨rfl, hb⟩; (first | (with_reducible have hx := hb_row2 hb) | (have hx := hb_row hb)); obtain ⟨hr, hb1⟩ := hx; have HB := Lib.hid hb1; have rc := hr.cell; have rf := hr.frozen; have rl := hr.lt; clear hb hb1 hr) | (go_at_call 155; refine (isaBad_any _).mono ?_; rintro e w1 ⟨rfl, hb⟩; (first | (with_reducible have hx := hb_row2 hb) | (have hx := hb_row hb)); obtain ⟨hr, hb1⟩ := hx; have HB := Lib.hid hb1; have rc := hr.cell; have rf := hr.frozen; have rl := hr.lt; clear hb hb1 hr))
      refine bodyPost_ret (v := rowV _) (by simp [results, Tryz.results156, go_sem, movesOf, zRow, *]) rfl ⟨rfl, ?_⟩
      exact (((HB.out.setCell (Nat.le_refl _) _).setCell (Nat.le_refl _) _).setCell (Nat.le_refl _) _).setCell (Nat.le_refl _) _

set_option maxRecDepth 100000 in
set_option maxHeartbeats 8000000 in
theorem words_any (op : Int) (w : World) (h0 : 144 ≤ op) (h1 : op < 160) : Calls Tryz.prog 157 #[.int .u8 op] w fun e w' => e = .returned (rowV (wordsOf op)) ∧ Below w.heap.size w w' := by
  have hc : op = 144 ∨ op = 145 ∨ op = 146 ∨ op = 147 ∨ op = 148 ∨ op = 149 ∨ op = 150 ∨ op = 151 ∨ op = 152 ∨ op = 153 ∨ op = 154 ∨ op = 155 ∨ op = 156 ∨ op = 157 ∨ op = 158 ∨ op = 159 := by omega
  clear h0 h1
  rcases hc with rfl | rfl | rfl | rfl | rfl | rfl | rfl | rfl | rfl | rfl | rfl | rfl | rfl | rfl | rfl | rfl
  all_goals
    go_enter Tryz.func157, Tryz.ntmps157
    go_wp2_with (first | (go_at_call 199; refine (isaMod_any _ _ _ _).mono ?_; rintro e w1 ⟨rfl, hb⟩; (first | (with_reducible have hx := hb_row2 hb) | (have hx := hb_row hb)); obtain ⟨hr, hb1⟩ := hx; have HB := Lib.hid hb1; have rc := hr.cell; have rf := hr.frozen; have rl := hr.lt; clear hb hb1 hr) | (go_at_call 154; refine (isaRow_any _ _ _ _).mono ?_; rintro e w1 ⟨rfl, hb⟩; (first | (with_reducible have hx := hb_row2 hb) | (have hx := hb_row hb)); obtain ⟨hr, hb1⟩ := hx; have HB := Lib.hid hb1; have rc := hr.cell; have rf := hr.frozen; have rl := hr.lt; clear hb hb1 hr) | (go_at_call 155; refine (isaBad_any _).mono ?_; rintro e w1 ⟨rfl, hb⟩; (first | (with_reducible have hx := hb_row2 hb) | (have hx := hb_row hb)); obtain ⟨hr, hb1⟩ := hx; have HB := Lib.hid hb1; have rc := hr.cell; have rf := hr.frozen; have rl := hr.lt; clear hb hb1 hr))
    refine bodyPost_ret (v := rowV _) (by simp [results, Tryz.results157, go_sem, wordsOf, zRow, *]) rfl ⟨rfl, ?_⟩
    exact (((HB.out.setCell (Nat.le_refl _) _).setCell (Nat.le_refl _) _).setCell (Nat.le_refl _) _).setCell (Nat.le_refl _) _

set_option maxRecDepth 100000 in
set_option maxHeartbeats 8000000 in
theorem texts_any (op : Int) (w : World) (h0 : 160 ≤ op) (h1 : op < 176) : Calls Tryz.prog 158 #[.int .u8 op] w fun e w' => e = .returned (rowV (textsOf op)) ∧ Below w.heap.size w w' := by
  have hc : op = 160 ∨ op = 161 ∨ op = 162 ∨ op = 163 ∨ op = 164 ∨ op = 165 ∨ op = 166 ∨ op = 167 ∨ op = 168 ∨ op = 169 ∨ op = 170 ∨ op = 171 ∨ op = 172 ∨ op = 173 ∨ op = 174 ∨ op = 175 := by omega
  clear h0 h1
  rcases hc with rfl | rfl | rfl | rfl | rfl | rfl | rfl | rfl | rfl | rfl | rfl | rfl | rfl | rfl | rfl | rfl
  all_goals
    go_enter Tryz.func158, Tryz.ntmps158
    go_wp2_with (first | (go_at_call 199; refine (isaMod_any _ _ _ _).mono ?_; rintro e w1 ⟨rfl, hb⟩; (first | (with_reducible have hx := hb_row2 hb) | (have hx := hb_row hb)); obtain ⟨hr, hb1⟩ := hx; have HB := Lib.hid hb1; have rc := hr.cell; have rf := hr.frozen; have rl := hr.lt; clear hb hb1 hr) | (go_at_call 154; refine (isaRow_any _ _ _ _).mono ?_; rintro e w1 ⟨rfl, hb⟩; (first | (with_reducible have hx := hb_row2 hb) | (have hx := hb_row hb)); obtain ⟨hr, hb1⟩ := hx; have HB := Lib.hid hb1; have rc := hr.cell; have rf := hr.frozen; have rl := hr.lt; clear hb hb1 hr) | (go_at_call 155; refine (isaBad_any _).mono ?_; rintro e w1 ⟨rfl, hb⟩; (first | (with_reducible have hx := hb_row2 hb) | (have hx := hb_row hb)); obtain ⟨hr, hb1⟩ := hx; have HB := Lib.hid hb1; have rc := hr.cell; have rf := hr.frozen; have rl := hr.lt; clear hb hb1 hr))
    refine bodyPost_ret (v := rowV _) (by simp [results, Tryz.results158, go_sem, textsOf, zRow, *]) rfl ⟨rfl, ?_⟩
    exact (((HB.out.setCell (Nat.le_refl _) _).setCell (Nat.le_refl _) _).setCell (Nat.le_refl _) _).setCell (Nat.le_refl _) _
end Go.Proofs.YtcglkefaopgjeaaGreatDoor
