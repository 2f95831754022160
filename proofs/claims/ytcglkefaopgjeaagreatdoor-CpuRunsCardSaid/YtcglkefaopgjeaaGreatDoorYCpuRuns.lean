/- CpuRuns: the law's steps, its walk, its row, in one text: each part's own remark says what it proves; conditions: hansom/addr.bases holds its own text. -/
import Derived.Test.YtcglkefaopgjeaaGreatDoorW7
import Derived.Test.YtcglkefaopgjeaaGreatDoorW9
import Derived.Test.YtcglkefaopgjeaaGreatDoorW10
import Derived.Test.YtcglkefaopgjeaaGreatDoorW11
import Derived.Test.YtcglkefaopgjeaaGreatDoorW12

/- Package cpu: move, of XCHG. -/
namespace Go.Proofs.YtcglkefaopgjeaaGreatDoor
set_option linter.unusedSimpArgs false
set_option linter.unusedVariables false
open Go.RowKit

/-- What is known behind some of a function's work: as St3, and some boxes of values that the function has made itself. -/
def StL (C : Phys) (lv : Value) (w0 : World) (i : Inst) (r : IRow) (t : V) (m' : Mach) (L : List (Nat × Array Value)) (w : World) : Prop :=
  ∃ lv', Own w C lv' m' ∧ Acc C lv w0 lv' w ∧ Box C lv' w w0.heap.size (instC i) 30 ∧ Box C lv' w (w0.heap.size + 1) (rowC r) 47 ∧ Box C lv' w (w0.heap.size + 1 + 1) (valC t) 24 ∧
    (∀ b ∈ L, w0.heap.size + 3 ≤ b.1 ∧ Box C lv' w b.1 b.2 24) ∧ L.Pairwise (fun a b => a.1 ≠ b.1)
section
variable {C : Phys} {lv : Value} {w0 w : World} {i : Inst} {r : IRow} {t : V} {m m' : Mach} {L : List (Nat × Array Value)}
theorem StL.nil (h : St3 C lv w0 i r t m w) : StL C lv w0 i r t m [] w := by
  obtain ⟨l, a, b, c, d, e⟩ := h
  exact ⟨l, a, b, c, d, e, fun _ h => absurd h (List.not_mem_nil), List.Pairwise.nil⟩
theorem StL.st3 (h : StL C lv w0 i r t m L w) : St3 C lv w0 i r t m w := by
  obtain ⟨l, a, b, c, d, e, f, g⟩ := h
  exact ⟨l, a, b, c, d, e⟩
theorem StL.drew (h : StL C lv w0 i r t m L w) : StL C lv w0 i r t m L w.drew := by
  obtain ⟨l, a, b, c, d, e, f, g⟩ := h
  exact ⟨l, a.drew, b.drew, c.drew, d.drew, e.drew, fun x hx => ⟨(f x hx).1, (f x hx).2.drew⟩, g⟩
theorem StL.alloc (h : StL C lv w0 i r t m L w) (cs : Array Value) : StL C lv w0 i r t m ((w.heap.size, cs) :: L) (w.alloc (.cells cs 24)) := by
  obtain ⟨l, a, b, c, d, e, f, g⟩ := h
  refine ⟨l, a.alloc _, b.alloc _, c.alloc _, d.alloc _, e.alloc _, ?_, ?_⟩
  · intro x hx
    rcases List.mem_cons.1 hx with rfl | hx
    · exact ⟨e.row.lt, Box.new a cs _⟩
    · exact ⟨(f x hx).1, (f x hx).2.alloc _⟩
  · exact List.Pairwise.cons (fun x hx => Nat.ne_of_gt (f x hx).2.row.lt) g
theorem StL.setAt (h : StL C lv w0 i r t m L w) {k : Nat} (hk : w0.heap.size + 3 ≤ k) (no : ∀ l, Own w C l m → Acc C lv w0 l w → (∀ b ∈ L, w0.heap.size + 3 ≤ b.1 ∧ Box C l w b.1 b.2 24) → ¬ C.own l k ∧ C.mb ≠ k ∧ ∀ g, C.ra = some g → g ≠ k) (L' : List (Nat × Array Value)) (j : Nat) (v : Value)
    (hL : ∀ l, (∀ b ∈ L, w0.heap.size + 3 ≤ b.1 ∧ Box C l w b.1 b.2 24) → L.Pairwise (fun a b => a.1 ≠ b.1) → (∀ b ∈ L', w0.heap.size + 3 ≤ b.1 ∧ Box C l (w.setCell ⟨k, j, none⟩ v) b.1 b.2 24) ∧ L'.Pairwise (fun a b => a.1 ≠ b.1)) : StL C lv w0 i r t m L' (w.setCell ⟨k, j, none⟩ v) := by
  obtain ⟨l, a, b, c, d, e, f, g⟩ := h
  have n := no l a b f
  exact ⟨l, a.setBox (p := ⟨k, j, none⟩) n.1 n.2 v, b.setNew (p := ⟨k, j, none⟩) (by show w0.heap.size ≤ k; omega) v, ⟨c.row.setCell_other _ _ (by show w0.heap.size ≠ k; omega), c.no⟩, ⟨d.row.setCell_other _ _ (by show w0.heap.size + 1 ≠ k; omega), d.no⟩, ⟨e.row.setCell_other _ _ (by show w0.heap.size + 1 + 1 ≠ k; omega), e.no⟩, hL l f g⟩
theorem boxed_apart {l : Value} (a : Own w C l m) {k : Nat} {cs : Array Value} (hk : w0.heap.size + 3 ≤ k) (h0 : Own w0 C lv m') (x : Box C l w k cs 24) : ¬ C.own l k ∧ C.mb ≠ k ∧ ∀ g, C.ra = some g → g ≠ k :=
  ⟨x.no, h0.apart (by omega)⟩
theorem StL.set0 (h0 : Own w0 C lv m') {k : Nat} {cs : Array Value} (h : StL C lv w0 i r t m ((k, cs) :: L) w) (j : Nat) (v : Value) : StL C lv w0 i r t m ((k, cs.setIfInBounds j v) :: L) (w.setCell ⟨k, j, none⟩ v) := by
  have hk : w0.heap.size + 3 ≤ k := by
    obtain ⟨l, a, b, c, d, e, f, g⟩ := h
    exact (f _ (List.mem_cons_self ..)).1
  refine h.setAt hk (fun l a b f => boxed_apart a hk h0 (f _ (List.mem_cons_self ..)).2) _ j v ?_
  intro l f g
  refine ⟨?_, ?_⟩
  · intro b hb
    rcases List.mem_cons.1 hb with rfl | hb
    · exact ⟨hk, ⟨(f _ (List.mem_cons_self ..)).2.row.setCell j v, (f _ (List.mem_cons_self ..)).2.no⟩⟩
    · have hn := (List.pairwise_cons.1 g).1 b hb
      have hx := f b (List.mem_cons_of_mem _ hb)
      exact ⟨hx.1, ⟨hx.2.row.setCell_other _ _ (Ne.symm hn), hx.2.no⟩⟩
  · exact List.Pairwise.cons (fun x hx => (List.pairwise_cons.1 g).1 x hx) (List.pairwise_cons.1 g).2
theorem StL.swap {b1 b2 : Nat × Array Value} (h : StL C lv w0 i r t m (b1 :: b2 :: L) w) : StL C lv w0 i r t m (b2 :: b1 :: L) w := by
  obtain ⟨l, a, b, c, d, e, f, g⟩ := h
  refine ⟨l, a, b, c, d, e, ?_, ?_⟩
  · intro x hx
    apply f
    simp only [List.mem_cons] at hx ⊢
    rcases hx with h | h | h
    · exact Or.inr (Or.inl h)
    · exact Or.inl h
    · exact Or.inr (Or.inr h)
  · have g1 := List.pairwise_cons.1 g
    have g2 := List.pairwise_cons.1 g1.2
    refine List.Pairwise.cons (fun x hx => ?_) (List.Pairwise.cons (fun x hx => g1.1 x (List.mem_cons_of_mem _ hx)) g2.2)
    rcases List.mem_cons.1 hx with rfl | hx
    · exact Ne.symm (g1.1 _ (List.mem_cons_self ..))
    · exact g2.1 x hx
theorem StL.two0 (h0 : Own w0 C lv m') {k : Nat} {a b : Value} (h : StL C lv w0 i r t m ((k, #[a, b]) :: L) w) (x y : Value) : StL C lv w0 i r t m ((k, #[x, y]) :: L) ((w.setCell ⟨k, 0, none⟩ x).setCell ⟨k, 1, none⟩ y) :=
  (h.set0 h0 0 x).set0 h0 1 y
theorem StL.two1 (h0 : Own w0 C lv m') {k : Nat} {a b : Value} {b1 : Nat × Array Value} (h : StL C lv w0 i r t m (b1 :: (k, #[a, b]) :: L) w) (x y : Value) : StL C lv w0 i r t m (b1 :: (k, #[x, y]) :: L) ((w.setCell ⟨k, 0, none⟩ x).setCell ⟨k, 1, none⟩ y) :=
  (h.swap.two0 h0 x y).swap
theorem StL.calls {f : FuncId} {args : Array Value} {v : Value} (hc : ∀ (w : World) (lv : Value), Own w C lv m → Calls Tryz.prog f args w fun e w' => e = .returned v ∧ After C lv w m' w') (L : List (Nat × Array Value)) (w : World) (h : StL C lv w0 i r t m L w) :
    Calls Tryz.prog f args w fun e w' => e = .returned v ∧ StL C lv w0 i r t m' L w' := by
  obtain ⟨l, a, b, c, d, e, f, g⟩ := h
  refine (hc w l a).mono fun _ _ ⟨he, ha⟩ => ⟨he, ?_⟩
  obtain ⟨l1, h1, f1, k1⟩ := ha
  exact ⟨l1, h1, b.trans ⟨f1, k1⟩, c.step f1 k1, d.step f1 k1, e.step f1 k1, fun x hx => ⟨(f x hx).1, (f x hx).2.step f1 k1⟩, g⟩
theorem StL.calls2 {f : FuncId} {args : Array Value} {v : Value} (hc : ∀ (w : World) (lv : Value), Own w C lv m → Calls Tryz.prog f args w fun e w' => e = .returned v ∧ After C lv w m' w') (L : List (Nat × Array Value)) (w : World) (K : Ending → World → Prop) (h : StL C lv w0 i r t m L w) (hk : ∀ e w', (e = .returned v ∧ StL C lv w0 i r t m' L w') → K e w') :
    Calls Tryz.prog f args w K := (StL.calls hc L w h).mono hk
theorem StL.fin {b1 b2 : Nat × Array Value} (h : StL C lv w0 i r t m L w) (e : L = [b1, b2] ∨ L = [b2, b1]) : StL C lv w0 i r t m [b1, b2] w := by
  rcases e with rfl | rfl
  · exact h
  · exact h.swap
theorem StL.box0 {k : Nat} {cs : Array Value} (h : StL C lv w0 i r t m ((k, cs) :: L) w) : (∀ j, w.cell? ⟨k, j, none⟩ = cs[j]?) ∧ (∀ j, w.frozen? ⟨k, j, none⟩ = false) ∧ k < w.heap.size ∧ (¬ w0.heap.size = k ∧ ¬ w0.heap.size + 1 = k ∧ ¬ w0.heap.size + 1 + 1 = k) ∧ (¬ k = w0.heap.size ∧ ¬ k = w0.heap.size + 1 ∧ ¬ k = w0.heap.size + 1 + 1) := by
  obtain ⟨l, a, b, c, d, e, f, g⟩ := h
  have x := f _ (List.mem_cons_self ..)
  have x1 := x.1
  dsimp only at x1
  exact ⟨x.2.row.cell, x.2.row.frozen, x.2.row.lt, ⟨by omega, by omega, by omega⟩, ⟨by omega, by omega, by omega⟩⟩
theorem StL.ne {k k2 : Nat} {cs cs2 : Array Value} (h : StL C lv w0 i r t m ((k, cs) :: (k2, cs2) :: L) w) : ¬ k = k2 ∧ ¬ k2 = k := by
  obtain ⟨l, a, b, c, d, e, f, g⟩ := h
  have x := (List.pairwise_cons.1 g).1 (k2, cs2) (List.mem_cons_self ..)
  exact ⟨x, Ne.symm x⟩
end
end Go.Proofs.YtcglkefaopgjeaaGreatDoor

/- Package cpu: move, of XCHG where reading stops nothing. -/
namespace Go.Proofs.YtcglkefaopgjeaaGreatDoor
set_option linter.unusedSimpArgs false
set_option linter.unusedVariables false
open Go.RowKit

def Mach.doXchg (m : Mach) (i : Inst) (r : IRow) (t : V) : Mach := (m.putV i r.a (m.getV i r.b t)).putV i r.b (m.getV i r.a t)

theorem keep_alloc {w : World} {k : Nat} {cs : Array Value} (o : Obj) (h : ∀ j, w.cell? ⟨k, j, none⟩ = cs[j]?) (lt : k < w.heap.size) (j : Nat) : (w.alloc o).cell? ⟨k, j, none⟩ = cs[j]? := by
  rw [← h j]
  exact ((Below.refl w.heap.size w).alloc (Nat.le_refl _) o).cell lt
theorem keep_set {w : World} {k : Nat} {cs : Array Value} {p : Addr} (v : Value) (h : ∀ j, w.cell? ⟨k, j, none⟩ = cs[j]?) (ne : ¬ k = p.block) (j : Nat) : (w.setCell p v).cell? ⟨k, j, none⟩ = cs[j]? := by
  exact (World.cell?_setCell_other _ _ _ _ (fun e => ne (congrArg Addr.block e.symm))).trans (h j)
theorem keep_drew {w : World} {k : Nat} {cs : Array Value} (h : ∀ j, w.cell? ⟨k, j, none⟩ = cs[j]?) (j : Nat) : w.drew.cell? ⟨k, j, none⟩ = cs[j]? := h j

set_option maxRecDepth 100000 in
set_option maxHeartbeats 12800000 in
theorem move_xchg (w : World) (C : Phys) (lv : Value) (m : Mach) (h : Own w C lv m) (i : Inst) (r : IRow) (t : V) (ht : t.wf) (hn : r.name = 34) (hga : GetOk i r.a) (hgb : GetOk i r.b) (ea : m.getM i r.a = m) (eb : m.getM i r.b = m) (hpa : PutOk i r.a) (hpb : PutOk i r.b) :
    Calls Tryz.prog 128 #[.pointer (some ⟨C.b, 0, none⟩), i.val, r.val, t.val] w fun e w' => e = .returned (.tuple #[]) ∧ After C lv w (m.doXchg i r t) w' := by
  obtain ⟨name, ra, rb, rm⟩ := r
  dsimp only at hn hga hgb ea eb hpa hpb
  subst hn
  have hs := st3 h i ⟨34, ra, rb, rm⟩ t
  have ha0 := getV_wf h i ra ht
  have hb0 := getV_wf h i rb ht
  obtain ⟨va, hva⟩ : ∃ v, m.getV i ra t = v := ⟨_, rfl⟩
  obtain ⟨vb, hvb⟩ : ∃ v, m.getV i rb t = v := ⟨_, rfl⟩
  obtain ⟨m1, hm1⟩ : ∃ m1, m.putV i ra vb = m1 := ⟨_, rfl⟩
  obtain ⟨m2, hm2⟩ : ∃ m2, m1.putV i rb va = m2 := ⟨_, rfl⟩
  have HE := Lib.hid (show m.doXchg i ⟨34, ra, rb, rm⟩ t = m2 from by rw [← hm2, ← hm1, ← hva, ← hvb]; rfl)
  rw [hva] at ha0
  rw [hvb] at hb0
  have H0 := Lib.hid h
  have KA := Lib.hid (StL.calls2 (lv := lv) (w0 := w) (i := i) (r := ⟨34, ra, rb, rm⟩) (t := t) (m := m) (m' := m) (fun w lv h => (by have q := hga w C lv m h t; rw [hva, ea] at q; exact q)))
  have KB := Lib.hid (StL.calls2 (lv := lv) (w0 := w) (i := i) (r := ⟨34, ra, rb, rm⟩) (t := t) (m := m) (m' := m) (fun w lv h => (by have q := hgb w C lv m h t; rw [hvb, eb] at q; exact q)))
  have KP := Lib.hid (StL.calls2 (lv := lv) (w0 := w) (i := i) (r := ⟨34, ra, rb, rm⟩) (t := t) (fun w lv h => hm1 ▸ hpa w C lv m h vb hb0))
  have KQ := Lib.hid (StL.calls2 (lv := lv) (w0 := w) (i := i) (r := ⟨34, ra, rb, rm⟩) (t := t) (fun w lv h => hm2 ▸ hpb w C lv m1 h va ha0))
  clear h hga hgb ea eb hpa hpb hva hvb hm1 hm2 ha0 hb0
  have xi := hs.ci
  have xr := hs.cr
  have xt := hs.ct
  obtain ⟨xl1, xl2, xl3⟩ := hs.lt
  go_enter Tryz.func128, Tryz.ntmps128
  go_upto_region 5 with fail
  generalize ((w.alloc (.cells (instC i) 30)).alloc (.cells (rowC ⟨34, ra, rb, rm⟩) 47)).alloc (.cells (valC t) 24) = W0 at *
  have S00 := Lib.hid (StL.nil hs)
  have S0 := Lib.hid (StL.nil hs).drew
  clear hs
  go_cut [8, 9] (fun s8 s9 wx => ∃ k8 k9 : Nat, s8 = .pointer (some ⟨k8, 0, none⟩) ∧ s9 = .pointer (some ⟨k9, 0, none⟩) ∧ StL C lv w i ⟨34, ra, rb, rm⟩ t m [(k8, #[.int .u16 va.v, .bool va.t]), (k9, #[.int .u16 vb.v, .bool vb.t])] wx)
  case first =>
    go_region_held3 (fun w' => (∀ j, w'.cell? ⟨w.heap.size, j, none⟩ = (instC i)[j]?) ∧ (∀ j, w'.cell? ⟨w.heap.size + 1, j, none⟩ = (rowC ⟨34, ra, rb, rm⟩)[j]?) ∧ (∀ j, w'.cell? ⟨w.heap.size + 1 + 1, j, none⟩ = (valC t)[j]?)) ((refine ⟨?_, ?_, ?_⟩ <;> (repeat (first | (with_reducible assumption) | (with_reducible refine keep_drew ?_) | (with_reducible refine keep_alloc _ ?_ (by first | (with_reducible assumption) | (simp only [World.size_setCell]; with_reducible assumption) | (simp only [World.size_alloc, World.size_setCell, World.size_drew]; omega))) | (with_reducible refine keep_set _ ?_ (by first | (with_reducible assumption) | (dsimp only; omega))))))) (first
      | (go_at_call 66; with_reducible apply KA.out; (focus (repeat (first | (with_reducible apply Hid.out; with_reducible assumption) | (with_reducible apply StL.alloc) | (with_reducible apply StL.drew) | (with_reducible apply StL.two0 H0.out) | (with_reducible apply StL.two1 H0.out)))); rintro e wA ⟨rfl, hq⟩; (try simp only [World.size_alloc, World.size_setCell, World.size_drew] at hq); have y1 := hq.st3.ci; have y2 := hq.st3.cr; have y3 := hq.st3.ct; have SA := Lib.hid hq; obtain ⟨yl1, yl2, yl3⟩ := hq.st3.lt; (try (obtain ⟨p1, p2, p3, ⟨p4, p5, p6⟩, ⟨p7, p8, p9⟩⟩ := hq.box0)); (try (obtain ⟨q1, q2, q3, ⟨q4, q5, q6⟩, ⟨q7, q8, q9⟩⟩ := hq.swap.box0)); (try (obtain ⟨n1, n2⟩ := hq.ne)); clear hq)
      | (go_at_call 66; with_reducible apply KB.out; (focus (repeat (first | (with_reducible apply Hid.out; with_reducible assumption) | (with_reducible apply StL.alloc) | (with_reducible apply StL.drew) | (with_reducible apply StL.two0 H0.out) | (with_reducible apply StL.two1 H0.out)))); rintro e wB ⟨rfl, hq⟩; (try simp only [World.size_alloc, World.size_setCell, World.size_drew] at hq); have z1 := hq.st3.ci; have z2 := hq.st3.cr; have z3 := hq.st3.ct; have SB := Lib.hid hq; obtain ⟨zl1, zl2, zl3⟩ := hq.st3.lt; (try (obtain ⟨u1, u2, u3, ⟨u4, u5, u6⟩, ⟨u7, u8, u9⟩⟩ := hq.box0)); (try (obtain ⟨v1, v2, v3, ⟨v4, v5, v6⟩, ⟨v7, v8, v9⟩⟩ := hq.swap.box0)); (try (obtain ⟨n3, n4⟩ := hq.ne)); clear hq))
    all_goals
      go_wp2_with fail
      go_meet
      refine ⟨_, _, rfl, rfl, ?_⟩
      with_reducible apply StL.fin
      · first | ((repeat (first | (with_reducible apply StL.alloc) | (with_reducible apply StL.drew))); with_reducible apply Hid.out; with_reducible assumption; done) | ((repeat (first | (with_reducible apply StL.alloc) | (with_reducible apply StL.drew))); with_reducible apply StL.two0 H0.out; (repeat (first | (with_reducible apply StL.alloc) | (with_reducible apply StL.drew))); with_reducible apply Hid.out; with_reducible assumption; done) | ((repeat (first | (with_reducible apply StL.alloc) | (with_reducible apply StL.drew))); with_reducible apply StL.two1 H0.out; (repeat (first | (with_reducible apply StL.alloc) | (with_reducible apply StL.drew))); with_reducible apply Hid.out; with_reducible assumption; done) | ((repeat (first | (with_reducible apply StL.alloc) | (with_reducible apply StL.drew))); with_reducible apply StL.two0 H0.out; (repeat (first | (with_reducible apply StL.alloc) | (with_reducible apply StL.drew))); with_reducible apply StL.two1 H0.out; (repeat (first | (with_reducible apply StL.alloc) | (with_reducible apply StL.drew))); with_reducible apply Hid.out; with_reducible assumption; done) | ((repeat (first | (with_reducible apply StL.alloc) | (with_reducible apply StL.drew))); with_reducible apply StL.two1 H0.out; (repeat (first | (with_reducible apply StL.alloc) | (with_reducible apply StL.drew))); with_reducible apply StL.two0 H0.out; (repeat (first | (with_reducible apply StL.alloc) | (with_reducible apply StL.drew))); with_reducible apply Hid.out; with_reducible assumption; done)
      · (try simp only [World.size_alloc, World.size_setCell, World.size_drew])
        first | exact Or.inl rfl | exact Or.inr rfl | exact Or.inl trivial | exact Or.inr trivial
  case rest =>
    obtain ⟨k8, k9, rfl, rfl, hq⟩ := hcut
    have y1 := hq.st3.ci
    have y2 := hq.st3.cr
    have y3 := hq.st3.ct
    obtain ⟨p1, p2, p3, -, -⟩ := hq.box0
    obtain ⟨q1, q2, q3, -, -⟩ := hq.swap.box0
    have SC := Lib.hid hq
    clear hq xi xr xt S0 S00
    go_wp2_with fail
    with_reducible apply KP.out
    · exact SC.out
    rintro e w1 ⟨rfl, hq⟩; dsimp only
    clear y1 y2 y3 p1 p2 p3 q1 q2 q3
    have y1 := hq.st3.ci
    have y2 := hq.st3.cr
    have y3 := hq.st3.ct
    obtain ⟨p1, p2, p3, -, -⟩ := hq.box0
    obtain ⟨q1, q2, q3, -, -⟩ := hq.swap.box0
    have SD := Lib.hid hq
    clear hq
    go_wp2_with fail
    with_reducible apply KQ.out
    · exact SD.out
    rintro e w2 ⟨rfl, hq⟩; dsimp only
    have SE := Lib.hid hq
    clear hq y1 y2 y3 p1 p2 p3 q1 q2 q3
    go_wp2_with fail
    (first | go_end0 | (((try simp only [Exit.inBlock, Exit.then]); refine bodyPost_ret (results_none rfl _ _ _) rfl ?_)))
    rw [HE.out]
    exact ⟨rfl, SE.out.st3.fin⟩
end Go.Proofs.YtcglkefaopgjeaaGreatDoor

/- Package cpu: Fetch and Step, where no instruction stands and the twelve bytes are the program's and plain. -/
namespace Go.Proofs.YtcglkefaopgjeaaGreatDoor
set_option linter.unusedSimpArgs false
set_option linter.unusedVariables false
open Go.RowKit

theorem results_fetchB (tmps : Array Value) (w : World) (a b c : Nat) (i : Inst) (n : Nat) (x y : Int) (ok : Bool) (h2 : tmps.getD 2 undef = .pointer (some ⟨a, 0, none⟩)) (h3 : tmps.getD 3 undef = .int .i64 n) (h4 : tmps.getD 4 undef = .pointer (some ⟨b, 0, none⟩)) (h5 : tmps.getD 5 undef = .pointer (some ⟨c, 0, none⟩)) (h6 : tmps.getD 6 undef = .bool ok)
    (hi : Row w a i.cells 30) (hb : Row w b #[.int .u16 x, .bool false] 24) (hc : Row w c #[.int .u16 y, .bool false] 24) :
    (results (Tryz.f17) tmps).run Tryz.prog w = .ok (.tuple #[i.val, .int .i64 n, V.val ⟨x, false⟩, V.val ⟨y, false⟩, .bool ok]) w := by
  have g2 : tmps[2]?.getD undef = .pointer (some ⟨a, 0, none⟩) := by simpa using h2
  have g3 : tmps[3]?.getD undef = .int .i64 n := by simpa using h3
  have g4 : tmps[4]?.getD undef = .pointer (some ⟨b, 0, none⟩) := by simpa using h4
  have g5 : tmps[5]?.getD undef = .pointer (some ⟨c, 0, none⟩) := by simpa using h5
  have g6 : tmps[6]?.getD undef = .bool ok := by simpa using h6
  have li := run_loadVar_row (P := Tryz.prog) w a 30 30 i.cells (0, 0) _ hi Tryz.underlying30 rfl (by kernel_rfl)
  have lb := run_loadVar_row (P := Tryz.prog) w b 24 24 #[.int .u16 x, .bool false] (0, 0) _ hb Tryz.underlying24 rfl (by kernel_rfl)
  have lc := run_loadVar_row (P := Tryz.prog) w c 24 24 #[.int .u16 y, .bool false] (0, 0) _ hc Tryz.underlying24 rfl (by kernel_rfl)
  simp [results, Tryz.results17, g2, g3, g4, g5, g6, asAddr, li, lb, lc]
theorem bun_set {C : Phys} {lv lv9 : Value} {w0 w : World} {m0 m9 : Mach} (h0 : Own w0 C lv m0) {p : Addr} (hk : w0.heap.size ≤ p.block) (no : ¬ C.own lv9 p.block) (v : Value) (h : Own w C lv9 m9 ∧ Acc C lv w0 lv9 w) : Own (w.setCell p v) C lv9 m9 ∧ Acc C lv w0 lv9 (w.setCell p v) :=
  ⟨h.1.setBox (p := p) no (h0.apart hk) v, h.2.setNew hk v⟩

set_option maxRecDepth 100000 in
set_option maxHeartbeats 6400000 in
theorem fetch_bad (w : World) (C : Phys) (lv : Value) (m : Mach) (h : Own w C lv m) (ht : takeF m.code = none) (hp : m.plainB (-1) 12 = true) :
    Calls Tryz.prog 17 #[.pointer (some ⟨C.b, 0, none⟩)] w fun e w' => e = .returned (.tuple #[zeroI.val, .int .i64 (0 : Nat), V.val ⟨0, false⟩, V.val ⟨0, false⟩, .bool false]) ∧ After C lv w (m.end 6).stuck w' := by
  have H := Lib.hid h
  have s1w := h.wf.r.s1
  have p0 := s1w.1
  have p1 := s1w.2
  have hb0 := ((((Below.refl w.heap.size w).alloc (Nat.le_refl _) (.cells zeroI.cells 30)).alloc (by simp) (.cells #[.int .u16 0, .bool false] 24)).alloc (by simp; omega) (.cells #[.int .u16 0, .bool false] 24)).alloc (by simp; omega) (.cells zeroB 108)
  have HB0 := Lib.hid hb0
  have HA0 := Lib.hid (Row.new' (w := ((w.alloc (.cells zeroI.cells 30)).alloc (.cells #[.int .u16 0, .bool false] 24)).alloc (.cells #[.int .u16 0, .bool false] 24)) (n := w.heap.size + 1 + 1 + 1) (cs := zeroB) (t := 108) (by simp))
  have HI0 := Lib.hid ((((Row.new w zeroI.cells 30).alloc (.cells #[.int .u16 0, .bool false] 24)).alloc (.cells #[.int .u16 0, .bool false] 24)).alloc (.cells zeroB 108))
  have HT0 := Lib.hid (((Row.new' (w := w.alloc (.cells zeroI.cells 30)) (n := w.heap.size + 1) (cs := #[.int .u16 0, .bool false]) (t := 24) (by simp)).alloc (.cells #[.int .u16 0, .bool false] 24)).alloc (.cells zeroB 108))
  have HS0 := Lib.hid ((Row.new' (w := (w.alloc (.cells zeroI.cells 30)).alloc (.cells #[.int .u16 0, .bool false] 24)) (n := w.heap.size + 1 + 1) (cs := #[.int .u16 0, .bool false]) (t := 24) (by simp)).alloc (.cells zeroB 108))
  clear h hb0
  go_enter Tryz.func17, Tryz.ntmps17
  go_wp2_with fail
  generalize (((w.alloc (.cells zeroI.cells 30)).alloc (.cells #[.int .u16 0, .bool false] 24)).alloc (.cells #[.int .u16 0, .bool false] 24)).alloc (.cells zeroB 108) = W0 at *
  go_loopw [22] (fun i wr => ∃ (k : Nat) (cs : Array Value), k ≤ 12 ∧ i = .int .i64 k ∧ cs.size = 12 ∧ (∀ j, j < k → cs[j]? = some (.int .u8 (m.code j))) ∧ Row wr (w.heap.size + 1 + 1 + 1) cs 108 ∧ Below (w.heap.size + 1 + 1 + 1) W0 wr) (fun i _ => 12 - (intOf i).toNat)
  case atStart => exact ⟨0, zeroB, by omega, rfl, rfl, fun _ hj => absurd hj (Nat.not_lt_zero _), HA0.out, Below.refl _ _⟩
  case round =>
    obtain ⟨k, cs, hk, rfl, hcs, hby, hrow, hbl⟩ := hrel
    have hb1 := HB0.out.trans (hbl.mono (by omega))
    have HBW := Lib.hid hbl
    have B3 := Lib.hid (show w.heap.size + 1 + 1 + 1 ≤ W0.heap.size from Nat.le_of_lt HA0.out.lt)
    have HO := Lib.hid (H.out.below hb1)
    have HR := Lib.hid hrow
    have HBL := Lib.hid hbl
    have HBY := Lib.hid hby
    clear hb1 hrow hbl hby
    by_cases hlt : k < 12
    · have hi : ((k : Nat) : Int) < 12 := by omega
      go_wp2_with fail
      refine (here_any _ _ _ _ HO.out k (by omega) (by omega)).mono ?_
      obtain ⟨o, ho⟩ : ∃ o, IntKind.u16.wrap (m.r.ip + k) = o := ⟨_, rfl⟩
      have o0 : 0 ≤ o := ho ▸ wrap16_lo _
      have o1 : o ≤ 65535 := ho ▸ wrap16_hi _
      have HOFF := Lib.hid ho
      rw [ho]
      clear ho
      rintro e w1 ⟨rfl, hb⟩; dsimp only
      have hr1 := Below.row hb HR.out HR.out.lt
      have HO1 := Lib.hid ((HO.out.below hb).alloc (.cells #[.int .u16 m.r.s1.v, .bool m.r.s1.t, .int .u16 o] 52))
      have HR1 := Lib.hid (hr1.alloc (.cells #[.int .u16 m.r.s1.v, .bool m.r.s1.t, .int .u16 o] 52))
      have hb2 := (HBL.out.trans (hb.mono (by have := HR.out.lt; omega)))
      have HBL1 := Lib.hid (hb2.alloc (by have := hr1.lt; omega) (.cells #[.int .u16 m.r.s1.v, .bool m.r.s1.t, .int .u16 o] 52))
      have HX1 := Lib.hid (Row.new w1 #[.int .u16 m.r.s1.v, .bool m.r.s1.t, .int .u16 o] 52)
      have HNE := Lib.hid (show w1.heap.size ≠ w.heap.size + 1 + 1 + 1 by have := hr1.lt; omega)
      clear hb hr1 hb2
      go_upto_region 6 with fail
      generalize w1.alloc (.cells #[.int .u16 m.r.s1.v, .bool m.r.s1.t, .int .u16 o] 52) = W1 at HO1 HR1 HBL1 HX1 ⊢
      have c26 : W1.cell? ⟨C.b, 26, none⟩ = some (.pointer (some ⟨C.mb, 0, none⟩)) := (HO1.out.row.cell 26).trans (mcell26 C m)
      have x0 : W1.cell? ⟨w1.heap.size, 0, none⟩ = some (.int .u16 m.r.s1.v) := HX1.out.cell 0
      have x2 : W1.cell? ⟨w1.heap.size, 2, none⟩ = some (.int .u16 o) := HX1.out.cell 2
      have ra := HR1.out.cell k
      have ra2 : W1.cell? ⟨w.heap.size + 1 + 1 + 1, k, none⟩ = some (cs[k]'(by omega)) := by rw [ra, Array.getElem?_eq_getElem (by omega)]
      have rf := HR1.out.frozen k
      have i1 : (0 : Int) ≤ (k : Int) := by omega
      have i2 : ¬ (12 : Int) ≤ (k : Int) := by omega
      have ne1 : ¬ C.b = w.heap.size + 1 + 1 + 1 := by have := H.out.row.lt; omega
      have ne2 : ¬ w.heap.size + 1 + 1 + 1 = C.b := by omega
      have ne3 : ¬ w1.heap.size = w.heap.size + 1 + 1 + 1 := HNE.out
      have ne4 : ¬ w.heap.size + 1 + 1 + 1 = w1.heap.size := by omega
      clear ra
      have CL := Lib.hid (HO1.out.mem)
      go_region_held3 (fun w' => w'.cell? ⟨C.b, 26, none⟩ = some (.pointer (some ⟨C.mb, 0, none⟩)) ∧ w'.cell? ⟨w1.heap.size, 0, none⟩ = some (.int .u16 m.r.s1.v) ∧ w'.cell? ⟨w1.heap.size, 2, none⟩ = some (.int .u16 o)) (go_keep) ((go_at_call 57; refine (memByte_any _ _ _ _ _ _ (CL.out.drew) m.r.s1.v o p0 p1 o0 o1).mono ?_; rintro e w' ⟨rfl, rfl⟩))
      clear c26 x0 x2 ra2 rf ne1 ne2 ne3 ne4
      go_wp2_with fail
      have hr2 := (HR1.out.setCell k (.int .u8 (m.mem (lin m.r.s1.v o)))).drew
      have hb2 := (HBL1.out.setCell (p := ⟨w.heap.size + 1 + 1 + 1, k, none⟩) (Nat.le_refl _) (.int .u8 (m.mem (lin m.r.s1.v o)))).drew
      refine ⟨⟨k + 1, _, by omega, by go_num, by rw [Array.size_setIfInBounds]; exact hcs, fun j hj => ?_, hr2, hb2⟩, by simp [intOf]; omega⟩
      by_cases e : j = k
      · subst e
        rw [Array.getElem?_setIfInBounds_self_of_lt (by omega), Mach.code, HOFF.out]
      · rw [Array.getElem?_setIfInBounds_ne (Ne.symm e)]
        exact HBY.out j (by omega)
    · obtain rfl : k = 12 := by omega
      have HBF := Lib.hid (show ∀ j, j < 12 → wr.cell? ⟨w.heap.size + 1 + 1 + 1, j, none⟩ = some (.int .u8 (m.code j)) from fun j hj => (HR.out.cell j).trans (HBY.out j hj))
      go_wp2_with fail
      refine (scanGet_any _ _ m.code HBF.out HR.out.lt (fun k => HO.out.mem.wf _)).mono ?_
      rw [ht]
      rintro e w1 ⟨rfl, hb⟩; dsimp only [GetVal]
      have HO1 := Lib.hid (HO.out.below hb)
      have HBW1 := Lib.hid (belowZ HBW.out B3.out hb)
      clear hb
      have HO2 := Lib.hid (HO1.out.alloc (.cells zeroI.cells 30))
      have HBW2 := Lib.hid (HBW1.out.alloc (Nat.le_trans B3.out HBW1.out.size) (.cells zeroI.cells 30))
      go_wp2_with fail
      refine (plainN_any _ _ _ _ HO2.out 12 (-1) (by omega) (by decide) (by decide)).mono ?_
      rw [hp]
      rintro e w8 ⟨rfl, hb⟩; dsimp only
      have HO8 := Lib.hid (HO2.out.below hb)
      have HBW8 := Lib.hid (belowZ HBW2.out B3.out hb)
      have B8 := Lib.hid (HB0.out.trans (HBW8.out.mono (by omega)))
      have XI8 := Lib.hid (show Box C lv w8 w.heap.size zeroI.cells 30 from ⟨Below.row HBW8.out HI0.out (by omega), H.out.fresh (Nat.le_refl _)⟩)
      have XT8 := Lib.hid (show Box C lv w8 (w.heap.size + 1) #[.int .u16 0, .bool false] 24 from ⟨Below.row HBW8.out HT0.out (by omega), H.out.fresh (by omega)⟩)
      have XS8 := Lib.hid (show Box C lv w8 (w.heap.size + 1 + 1) #[.int .u16 0, .bool false] 24 from ⟨Below.row HBW8.out HS0.out (by omega), H.out.fresh (by omega)⟩)
      have HA8 := Lib.hid ((Acc.refl C lv w).below B8.out)
      clear hb
      go_wp2_with fail
      refine (end_any _ _ _ _ HO8.out 6).mono ?_
      rintro e w9 ⟨rfl, lv9, h9, f9, k9⟩; dsimp only
      have HO9 := Lib.hid h9
      have HA9 := Lib.hid (HA8.out.trans ⟨f9, k9⟩)
      have XI9 := Lib.hid (XI8.out.step f9 k9)
      have XT9 := Lib.hid (XT8.out.step f9 k9)
      have XS9 := Lib.hid (XS8.out.step f9 k9)
      clear h9 f9 k9
      go_wp2_with fail
      refine (stuck_any _ _ _ _ HO9.out).mono ?_
      rintro e w10 ⟨rfl, lv10, h9, f9, k9⟩; dsimp only
      have HO10 := Lib.hid h9
      have HA10 := Lib.hid (HA9.out.trans ⟨f9, k9⟩)
      have XI10 := Lib.hid (XI9.out.step f9 k9)
      have XT10 := Lib.hid (XT9.out.step f9 k9)
      have XS10 := Lib.hid (XS9.out.step f9 k9)
      clear h9 f9 k9
      have ic := XI10.out.row.cell
      have tc := XT10.out.row.cell
      have sc := XS10.out.row.cell
      have jf := XI10.out.row.frozen
      have tf := XT10.out.row.frozen
      have sf := XS10.out.row.frozen
      go_wp2_with fail
      clear ic tc sc jf tf sf
      have ri := row_inst zeroI XI10.out.row
      have ti := row_inst_other zeroI w.heap.size XT10.out.row (by omega)
      have si := row_inst_other zeroI w.heap.size XS10.out.row (by omega)
      have n1 := XI10.out.no
      have n2 := XT10.out.no
      have n3 := XS10.out.no
      refine bodyPost_ret (results_fetchB _ _ w.heap.size (w.heap.size + 1) (w.heap.size + 1 + 1) zeroI 0 0 0 false rfl rfl rfl rfl rfl ?_ ?_ ?_) rfl ⟨rfl, ?_⟩
      · exact (((ri.setCell_other ⟨w.heap.size + 1, 0, none⟩ _ (by simp)).setCell_other ⟨w.heap.size + 1, 1, none⟩ _ (by simp)).setCell_other ⟨w.heap.size + 1 + 1, 0, none⟩ _ (by simp; omega)).setCell_other ⟨w.heap.size + 1 + 1, 1, none⟩ _ (by simp; omega)
      · exact ((row_s2 ti).setCell_other ⟨w.heap.size + 1 + 1, 0, none⟩ _ (by simp)).setCell_other ⟨w.heap.size + 1 + 1, 1, none⟩ _ (by simp)
      · exact row_s2 ((si.setCell_other ⟨w.heap.size + 1, 0, none⟩ _ (by simp)).setCell_other ⟨w.heap.size + 1, 1, none⟩ _ (by simp))
      · refine (fun (hh : Own _ C lv10 _ ∧ Acc C lv w lv10 _) => After.mk hh.1 hh.2) ?_
        repeat (first | (with_reducible exact ⟨HO10.out, HA10.out⟩) | with_reducible refine bun_set H.out (by dsimp only; omega) (by first | with_reducible exact n1 | with_reducible exact n2 | with_reducible exact n3) _ ?_)

set_option maxRecDepth 100000 in
set_option maxHeartbeats 3200000 in
theorem step_bad (w : World) (C : Phys) (lv : Value) (m : Mach) (h : Own w C lv m) (h0 : m.state = 0) (ht : takeF m.code = none) (hp : m.plainB (-1) 12 = true) :
    Calls Tryz.prog 25 #[.pointer (some ⟨C.b, 0, none⟩)] w fun e w' => e = .returned (.bool true) ∧ After C lv w (m.end 6).stuck w' := by
  have hb0 : (m.state != 0) = false := by simp [h0]
  have HO0 := Lib.hid h
  have HT := Lib.hid ht
  have HP := Lib.hid hp
  clear h h0 ht hp
  go_enter Tryz.func25, Tryz.ntmps25
  go_wp2_with fail
  refine (state_any _ _ _ _ HO0.out).mono ?_
  rintro e w' ⟨rfl, rfl⟩; dsimp only
  go_wp2_with fail
  refine (fetch_bad _ _ _ _ HO0.out HT.out HP.out).mono ?_
  rintro e w1 ⟨rfl, lv1, h1, f1, k1⟩; dsimp only
  have HO1 := Lib.hid h1
  have HA1 := Lib.hid ((Acc.refl C lv w).trans ⟨f1, k1⟩)
  clear h1 f1 k1
  go_wp2_with fail
  go_ret
  exact ⟨rfl, After.mk (((HO1.out.alloc _).alloc _).alloc _) (((HA1.out.alloc _).alloc _).alloc _)⟩
end Go.Proofs.YtcglkefaopgjeaaGreatDoor

/- The steps of CpuRuns: plain laws, no walk. -/
namespace Go.Proofs.YtcglkefaopgjeaaGreatDoor
set_option linter.unusedSimpArgs false
set_option linter.unusedVariables false
open Go.RowKit

theorem take_nothing (bs : Nat → Int) (op : Int) (h : bs 0 = op) (h1 : isPre op = false) (h2 : twoOf op = false) (h3 : isaOf op 0 = none) : takeF bs = none := by
  have ha : aheadF bs 4 0 false 0 0 = some (op, 1, false, 0, 0) := by
    rw [aheadF, if_pos (by rw [h]; exact h1), h]
  rw [takeF, ha]
  show restF bs (twoF bs op 1 false 0 0) = none
  rw [twoF, if_neg (by rw [h2]; decide), restF]
  show (match isaOf op 0 with | none => none | some r => _) = none
  rw [h3]

/-- The law's bytes: NOPs, and one that ends the run. -/
def nopB (s : Nat) (bad : Int) : List Int := (List.replicate 20 144).set s bad
theorem nopB_lt (s k : Nat) (bad : Int) (hk : k < s) (hs : s < 20) : (nopB s bad).getD k 0 = 144 := by
  rw [nopB, List.getD_eq_getElem?_getD, List.getElem?_set_ne (by omega), List.getElem?_replicate, if_pos (by omega)]
  rfl
theorem nopB_at (s : Nat) (bad : Int) (hs : s < 20) : (nopB s bad).getD s 0 = bad := by
  rw [nopB, List.getD_eq_getElem?_getD, List.getElem?_set_self (by rw [List.length_replicate]; exact hs)]
  rfl
theorem nopB_ne (s k : Nat) (bad : Int) (hk : k ≠ s) (h20 : k < 20) : (nopB s bad).getD k 0 = 144 := by
  rw [nopB, List.getD_eq_getElem?_getD, List.getElem?_set_ne (Ne.symm hk), List.getElem?_replicate, if_pos h20]
  rfl
theorem nopB_wf (s : Nat) (bad : Int) (h0 : 0 ≤ bad) (h1 : bad ≤ 255) (k : Nat) : 0 ≤ (nopB s bad).getD k 0 ∧ (nopB s bad).getD k 0 ≤ 255 := by
  rw [nopB, List.getD_eq_getElem?_getD, List.getElem?_set]
  split
  · split
    · exact ⟨h0, h1⟩
    · exact ⟨by decide, by decide⟩
  · rw [List.getElem?_replicate]
    split <;> exact ⟨by decide, by decide⟩
theorem nopB_length (s : Nat) (bad : Int) : (nopB s bad).length = 20 := by
  rw [nopB, List.length_set, List.length_replicate]

/-- Behind k NOPs. -/
def nopM (r : Regs) (bs : List Int) : Nat → Mach
  | 0 => begun r bs
  | k + 1 => (nopM r bs k).on 1
theorem nopM_sane (r : Regs) (bs : List Int) (k : Nat) : Sane (nopM r bs k) := by
  induction k with
  | zero => exact sane_begun r bs
  | succ k ih => exact ⟨ih.base, ih.size, ih.state, ih.tag, ih.s1⟩
theorem nopM_ev (r : Regs) (bs : List Int) (k : Nat) : (nopM r bs k).ev = [] := by
  induction k with
  | zero => rfl
  | succ k ih => exact ih
theorem nopM_code (r : Regs) (h0 : 0 ≤ r.ip) (h1 : r.ip ≤ 65535) (bs : List Int) (k : Nat) : ∀ j, k + j < 65536 → (nopM r bs k).code j = bs.getD (k + j) 0 := by
  induction k with
  | zero => intro j hj; rw [Nat.zero_add] at hj ⊢; exact code_begun r h0 h1 bs j hj
  | succ k ih =>
    intro j hj
    have e := ih (1 + j) (by omega)
    rw [show k + 1 + j = k + (1 + j) by omega, ← e]
    show (nopM r bs k).mem (lin (nopM r bs k).r.s1.v (IntKind.u16.wrap (IntKind.u16.wrap ((nopM r bs k).r.ip + (1 : Nat)) + j))) = (nopM r bs k).mem (lin (nopM r bs k).r.s1.v (IntKind.u16.wrap ((nopM r bs k).r.ip + (1 + j : Nat))))
    rw [show IntKind.u16.wrap (IntKind.u16.wrap ((nopM r bs k).r.ip + (1 : Nat)) + j) = IntKind.u16.wrap ((nopM r bs k).r.ip + (1 + j : Nat)) by simp only [IntKind.wrap_u16]; omega]
theorem nop_same (m : Mach) (t : V) : m.doXchg (opI 144 false 0 0) ⟨34, 16, 22, false⟩ t = m := by
  have e1 : m.getV (opI 144 false 0 0) 16 t = m.r.g0 := rfl
  have e2 : m.getV (opI 144 false 0 0) 22 t = m.r.g0 := rfl
  unfold Mach.doXchg
  rw [e1, e2]
  rfl
theorem nop_step (C : Phys) (m : Mach) (hs : Sane m) (hc : m.code 0 = 144) : StepOk C m (m.on 1) := by
  refine step_alone hs 144 (by decide) (by decide) hc (by decide) ⟨34, 16, 22, false⟩ rfl (by decide) (by decide) ?_
  intro w lv h
  refine do_move w C lv _ _ h _ ⟨34, 16, 22, false⟩ ⟨0, false⟩ (by decide) ?_
  intro w lv h
  have := move_xchg w C lv _ h (opI 144 false 0 0) ⟨34, 16, 22, false⟩ ⟨0, false⟩ ⟨by decide, by decide⟩ rfl (getOk_bare _ (by decide) (by decide) 16 (by decide) (by decide)) (getOk_bare _ (by decide) (by decide) 22 (by decide) (by decide)) rfl rfl (putOk_bare _ (by decide) (by decide) 16 (by decide) (by decide)) (putOk_bare _ (by decide) (by decide) 22 (by decide) (by decide))
  rwa [nop_same] at this
/-- What the byte that ends the run makes of the machine. -/
def badM (m : Mach) (bad : Int) : Mach := if bad = 244 then (m.on 1).end 4 else m.end 6
theorem bad_step (C : Phys) (m : Mach) (hs : Sane m) (bad : Int) (hc : m.code 0 = bad) (hb : bad = 244 ∨ bad = 15 ∨ bad = 96 ∨ bad = 214) : StepOk C m (badM m bad) := by
  have one : ∀ op, (op = 15 ∨ op = 96 ∨ op = 214) → m.code 0 = op → StepOk C m (m.end 6) := by
    intro op ho hc w lv h
    have ht : takeF m.code = none := by
      refine take_nothing m.code op hc ?_ ?_ ?_ <;> rcases ho with rfl | rfl | rfl <;> decide
    have := step_bad w C lv m h hs.state ht (plainB_sane hs _ _)
    have e : (m.end 6).stuck = m.end 6 := by
      unfold Mach.stuck
      rw [if_neg]
      unfold Mach.end
      rw [if_neg (by rw [hs.state]; decide), if_pos (by decide)]
      show ¬ (1 : Int) = 0
      decide
    rwa [e] at this
  by_cases h4 : bad = 244
  · rw [badM, if_pos h4]
    refine step_alone hs 244 (by decide) (by decide) (hc.trans h4) (by decide) ⟨82, 0, 0, false⟩ rfl (by decide) (by decide) ?_
    intro w lv h
    refine do_flags w C lv _ _ h _ ⟨82, 0, 0, false⟩ ⟨0, false⟩ (by decide) ?_
    intro w lv h
    exact flags_82 w C lv _ h ⟨82, 0, 0, false⟩ rfl
  · rw [badM, if_neg h4]
    exact one bad (by omega) hc
theorem badM_says (m : Mach) (hs : Sane m) (he : m.ev = []) (bad : Int) : (badM m bad).state = 1 ∧ (badM m bad).ev = [⟨if bad = 244 then 4 else 6, 0, 0, 0, 0, 0, 0⟩] := by
  unfold badM
  split
  · unfold Mach.end
    rw [if_neg (by show ¬ m.state ≠ 0; rw [hs.state]; decide), if_pos (by decide)]
    refine ⟨rfl, ?_⟩
    show noteL m.ev _ = _
    rw [he]
    rfl
  · unfold Mach.end
    rw [if_neg (by rw [hs.state]; decide), if_pos (by decide)]
    refine ⟨rfl, ?_⟩
    show noteL m.ev _ = _
    rw [he]
    rfl

/-- The run's machines. -/
def runM (r : Regs) (s : Nat) (bad : Int) (k : Nat) : Mach := if k ≤ s then nopM r (nopB s bad) k else badM (nopM r (nopB s bad) s) bad
theorem runM_steps (r : Regs) (hr : r.wf) (C : Phys) (s : Nat) (hs : s < 20) (bad : Int) (hb : bad = 244 ∨ bad = 15 ∨ bad = 96 ∨ bad = 214) : ∀ k, k < s + 1 → StepOk C (runM r s bad k) (runM r s bad (k + 1)) := by
  intro k hk
  have hc := nopM_code r hr.ip.1 hr.ip.2 (nopB s bad) k 0 (by omega)
  rw [Nat.add_zero] at hc
  unfold runM
  rw [if_pos (by omega)]
  by_cases e : k = s
  · subst e
    rw [if_neg (by omega)]
    rw [nopB_at k bad hs] at hc
    exact bad_step C _ (nopM_sane _ _ _) bad hc hb
  · rw [if_pos (by omega)]
    rw [nopB_lt s k bad (by omega) hs] at hc
    exact nop_step C _ (nopM_sane _ _ _) hc
theorem runM_ran (r : Regs) (s : Nat) (bad : Int) (k : Nat) (hk : k ≤ s) : (runM r s bad k).state = 0 ∧ (runM r s bad k).ev = [] := by
  unfold runM
  rw [if_pos hk]
  exact ⟨(nopM_sane _ _ _).state, nopM_ev _ _ _⟩
theorem runM_end (r : Regs) (s : Nat) (bad : Int) : (runM r s bad (s + 1)).state = 1 ∧ (runM r s bad (s + 1)).ev = [⟨if bad = 244 then 4 else 6, 0, 0, 0, 0, 0, 0⟩] := by
  unfold runM
  rw [if_neg (by omega)]
  exact badM_says _ (nopM_sane _ _ _) (nopM_ev _ _ _) bad
end Go.Proofs.YtcglkefaopgjeaaGreatDoor

/- The law CpuRuns. -/
namespace Go.Proofs.YtcglkefaopgjeaaGreatDoor
set_option linter.unusedSimpArgs false
set_option linter.unusedVariables false
open Go.RowKit

theorem evs_cell {w : World} {base g n cap : Nat} {e : Ev} (h : w.ownsRow base 67 7 (.slice (some ⟨g, 0, none⟩) n cap) [e].length (evCells [e])) (j : Nat) (u : Value) (hj : e.cells[j]? = some u) : w.cell? ⟨g, j, none⟩ = some u := by
  have := h.cells (g := g) rfl j u (by simpa [evCells] using hj)
  have e : (⟨g, 0, none⟩ : Addr).add j = ⟨g, j, none⟩ := by unfold Addr.add; split <;> simp_all
  rwa [e] at this

theorem own_base {w : World} {B size n : Nat} {e : TypeId} {v : Value} {xs : List Value} (h : w.ownsRow B e size v n xs) : ∀ b, v.ownBlock = some b → B ≤ b := by
  intro b hb
  obtain ⟨_, ⟨rfl, _⟩ | ⟨g, cap, cur, rfl, hg, _⟩⟩ := h
  · cases hb
  · cases hb; exact hg

set_option maxRecDepth 100000 in
set_option maxHeartbeats 6400000 in
theorem cpuRuns_any (r : Regs) (hr : r.wf) (n1 n2 : Int) (s N q : Nat) (bad : Int) (hs : bits .and .i64 n2 15 = (s : Int)) (hs16 : s < 16) (hN : bits .and .i64 n1 31 = (N : Int)) (hN32 : N < 32)
    (hq : bits .and .i64 (n2 / 16) 3 = (q : Int)) (x7 : Int) (h7 : bits .and .i64 n1 7 = x7) (h70 : 0 ≤ x7) (h71 : x7 ≤ 7) (hb : (q = 0 ∧ bad = 244) ∨ (q = 1 ∧ bad = 15) ∨ (q = 2 ∧ bad = 96) ∨ (q = 3 ∧ bad = 214)) (w : World) :
    Calls Tryz.prog 10 #[r.val, .int .i64 n1, .int .i64 n2] w fun e w' => e = .returned (.bool true) ∧ Below w.heap.size w w' := by
  obtain ⟨i0, hi0, hz0, hz1, hz2⟩ := info_parts info_u8
  go_enter Tryz.func10, Tryz.ntmps10
  have hb0 := (Below.refl w.heap.size w).alloc (Nat.le_refl _) (.cells r.cells 28)
  have hrow0 := Row.new w r.cells 28
  have HB0 := Lib.hid hb0
  have HR0 := Lib.hid hrow0
  clear hb0 hrow0
  go_wp2_with fail
  go_loopw [7, 8] (fun v i wr => ∃ k : Nat, k ≤ 20 ∧ i = .int .i64 k ∧ wr.ownsRow (w.heap.size + 1) 5 1 v k (List.replicate k (.int .u8 144)) ∧ Below (w.heap.size + 1) (w.alloc (.cells r.cells 28)) wr) (fun _ i _ => 20 - (intOf i).toNat)
  case atStart =>
    have hm := World.ownsRow_made (base := w.heap.size + 1) (e := 5) (size := 1) (w.alloc (.cells r.cells 28)) #[] 0 (by rw [World.size_alloc]; exact Nat.le_refl _) (by unfold maxLen; omega) rfl
    rw [World.size_alloc] at hm
    exact ⟨0, by omega, rfl, hm, (Below.refl _ _).alloc (by rw [World.size_alloc]; exact Nat.le_refl _) _⟩
  case round =>
    obtain ⟨k, hk, rfl, hown, hbl⟩ := hrel
    have HOWN := Lib.hid hown
    have HBL := Lib.hid hbl
    have hsz := hbl.size
    rw [World.size_alloc] at hsz
    clear hown hbl
    by_cases hlt : k < 20
    · have hi : ((k : Nat) : Int) < 20 := by omega
      go_wp2_with (at_builtin; go_loud (refine wpList_append_own _ rfl _ _ _ rfl (w.heap.size + 1) 5 i0 _ 1 1 Tryz.underlying32 hi0 hz0 hz1 hz2 rfl (by omega) _ k (List.replicate k (.int .u8 144)) rfl ?c1 ⟨wr.heap.size, 0, none⟩ 1 1 [.int .u8 144] rfl rfl ?c2 ?c2b ?c3 ?c4 ?c5 ?c6))
      case c1 => exact HOWN.out.alloc _
      case c2 =>
        intro j u h
        match j, h with
        | 0, h =>
          have hu : u = .int .u8 144 := by simpa using h.symm
          rw [hu]
          exact ((Row.new wr #[.int .u8 144] 5).cell 0).trans rfl
        | j + 1, h => simp at h
      case c2b => intro u hu; simp at hu; subst hu; rfl
      case c3 => unfold maxLen; omega
      case c4 => omega
      case c5 => rw [World.size_alloc]; omega
      case c6 =>
        intro v' w1 hown hg hat
        have HO := Lib.hid hown
        have HG := Lib.hid hg
        clear hown hg
        go_wp2_with fail
        refine ⟨⟨k + 1, by omega, by go_num, ?_, ?_⟩, by simp [intOf]; omega⟩
        · rw [List.replicate_succ']
          exact HO.out
        · exact Below.grown (HBL.out.alloc hsz _) HG.out (by rw [World.size_alloc]; omega) (own_base HOWN.out)
    · obtain rfl : k = 20 := by omega
      obtain ⟨_, ⟨-, h20⟩ | ⟨g, cap, cur, rfl, hg, hgr, hc20, hcm, hcs, hct⟩⟩ := HOWN.out
      · omega
      clear HOWN
      have hrow : Row wr g cur 5 := Row.of_heap hgr
      have hsz20 : 20 ≤ cur.size := by omega
      have hcur : ∀ j, j < 20 → cur[j]? = some (.int .u8 144) := by
        intro j hj
        have e : (cur.toList.take 20)[j]? = (List.replicate 20 (Value.int .u8 144))[j]? := by rw [← hct]
        rw [List.getElem?_take, if_pos hj, List.getElem?_replicate, if_pos hj, Array.getElem?_toList] at e
        exact e
      have HROW := Lib.hid hrow
      have HCUR := Lib.hid hcur
      have HG := Lib.hid hg
      have HC := Lib.hid hc20
      have HSZ := Lib.hid hsz20
      clear hgr hcm hcs hct
      have rc := hrow.cell s
      have rf := hrow.frozen s
      rw [hcur s (by omega)] at rc
      have glt := hrow.lt
      have ne1 : ¬ g = wr.heap.size := Nat.ne_of_lt glt
      have ne2 : ¬ wr.heap.size = g := Ne.symm ne1
      have is0 : (0 : Int) ≤ (s : Int) := by omega
      have is1 : (s : Int) < 20 := by omega
      go_upto_region 7 with fail
      go_cut [9] (fun s9 wx => s9 = .int .i64 (s : Int) ∧ Row wx g (cur.setIfInBounds s (.int .u8 bad)) 5 ∧ Below (w.heap.size + 1) (w.alloc (.cells r.cells 28)) wx)
      case first =>
        rcases hb with ⟨rfl, rfl⟩ | ⟨rfl, rfl⟩ | ⟨rfl, rfl⟩ | ⟨rfl, rfl⟩
        all_goals
          go_wp2_with fail
          go_meet
          refine ⟨rfl, ?_, ?_⟩
          · exact (HROW.out.setCell s _).alloc _
          · exact (HBL.out.setCell (p := ⟨g, s, none⟩) HG.out _).alloc (by rw [World.size_setCell]; exact hsz) _
      case rest =>
        obtain ⟨rfl, hrow1, hb1⟩ := hcut
        clear rc rf glt ne1 ne2 hrow
        have hby : ∀ k, k < (nopB s bad).length → wc.cell? ⟨g, k, none⟩ = some (.int .u8 ((nopB s bad).getD k 0)) := by
          intro k hk
          rw [nopB_length] at hk
          rw [hrow1.cell k]
          by_cases e : k = s
          · subst e
            rw [nopB_at k bad (by omega), Array.getElem?_setIfInBounds_self_of_lt (by omega)]
          · rw [nopB_ne s k bad e hk, Array.getElem?_setIfInBounds_ne (Ne.symm e)]
            exact HCUR.out k hk
        have HBYc := Lib.hid hby
        have HB1 := Lib.hid (HB0.out.trans (hb1.mono (Nat.le_succ _)))
        have gl1 := hrow1.lt
        have hbad : 0 ≤ bad ∧ bad ≤ 255 := by omega
        have hx := (Below.row hb1 HR0.out (Nat.lt_succ_self _))
        obtain ⟨xc, xf, xr, xs, xl⟩ := hx.sees
        have KB := Lib.hid (begin_any wc r hr g cap (nopB s bad) gl1 hby (nopB_wf s bad hbad.1 hbad.2) (by rw [nopB_length]; decide))
        rw [nopB_length] at KB
        clear hby hcur hsz20
        go_wp2_with fail
        refine KB.out.mono ?_
        clear KB
        rintro e w1 ⟨C, lv, rfl, ho, hb2, hn⟩; dsimp only
        have HO1 := Lib.hid ho
        have HN1 := Lib.hid (fun k (hk : k < wc.heap.size) => hn k hk)
        have HB2 := Lib.hid hb2
        have HW2 := Lib.hid (HB1.out.trans (hb2.mono HB1.out.size))
        clear ho hn hb2
        go_wp2_with fail
        have e0 : runM r s bad 0 = begun r (nopB s bad) := by unfold runM; rw [if_pos (Nat.zero_le _)]; rfl
        obtain ⟨n, hnN, hns, hn3⟩ : ∃ n, n ≤ N ∧ n ≤ s + 1 ∧ ((n = N ∧ N ≤ s) ∨ (n = s + 1 ∧ s < N)) := by
          by_cases hle : N ≤ s
          · exact ⟨N, Nat.le_refl _, by omega, Or.inl ⟨rfl, hle⟩⟩
          · exact ⟨s + 1, by omega, Nat.le_refl _, Or.inr ⟨rfl, by omega⟩⟩
        refine (run_any _ C lv (runM r s bad) n N (by omega) hnN (by rw [e0]; exact HO1.out) (fun k hk => runM_steps r hr C s (by omega) bad (by omega) k (by omega)) (by
          rcases hn3 with ⟨h, _⟩ | ⟨h, _⟩
          · exact Or.inl h
          · refine Or.inr ?_
            rw [h, (runM_end r s bad).1]
            decide)).mono ?_
        rintro e w2 ⟨rfl, lv2, h2, f2, k2⟩; dsimp only
        have HM := Lib.hid (show (n = N ∧ N ≤ s ∧ (runM r s bad n).state = 0 ∧ (runM r s bad n).ev = []) ∨ (n = s + 1 ∧ s < N ∧ (runM r s bad n).state = 1 ∧ (runM r s bad n).ev = [⟨if bad = 244 then 4 else 6, 0, 0, 0, 0, 0, 0⟩]) by
          rcases hn3 with ⟨h, hl⟩ | ⟨h, hl⟩
          · exact Or.inl ⟨h, hl, runM_ran r s bad n (by omega)⟩
          · exact Or.inr ⟨h, hl, by rw [h]; exact runM_end r s bad⟩)
        generalize runM r s bad n = mm at h2 HM
        have HO2 := Lib.hid h2
        have HC2 := Lib.hid (below_step HB2.out f2 HN1.out)
        have HW3 := Lib.hid (HB1.out.trans (HC2.out.mono HB1.out.size))
        have HN2 := Lib.hid (own_lv HN1.out k2 HB2.out.size)
        clear h2 f2 k2 e0 hn3
        have bc := (HC2.out.cell (p := ⟨g, s, none⟩) gl1).trans ((HBYc.out s (by rw [nopB_length]; omega)).trans (by rw [nopB_at s bad (by omega)]))
        have c27 : w2.cell? ⟨C.b, 27, none⟩ = some (.pointer (some ⟨C.wb, 0, none⟩)) := (HO2.out.row.cell 27).trans (mcell27 C _)
        go_upto_if 46 with fail
        go_cut [13] (fun s13 wx => s13 = .int .i64 (if bad = 244 then 4 else 6) ∧ wx = w2)
        case first =>
          by_cases h4 : bad = 244
          · have h4b : (bad == 244) = true := by simp [h4]
            have H4 := Lib.hid h4
            clear h4
            go_wp2_with fail
            go_meet
            exact ⟨by rw [if_pos H4.out], rfl⟩
          · have h4b : (bad == 244) = false := by simp [h4]
            have H4 := Lib.hid h4
            clear h4
            go_wp2_with fail
            go_meet
            exact ⟨by rw [if_neg H4.out], rfl⟩
        case rest =>
          obtain ⟨rfl, hww⟩ := hcut
          subst hww
          obtain ⟨want, hwant⟩ : ∃ z : Int, (if bad = 244 then (4 : Int) else 6) = z := ⟨_, rfl⟩
          rw [hwant] at HM ⊢
          clear hwant bc
          rcases HM.out with ⟨hnN2, hle, hst, hev⟩ | ⟨hns2, hlt2, hst, hev⟩
          · have HST := Lib.hid hst
            have HEV := Lib.hid hev
            have HNN := Lib.hid hnN2
            have ile : ((N : Nat) : Int) ≤ (s : Int) := by omega
            clear hst hev hnN2 hle HM
            go_wp2_with fail
            have hw := HO2.out.wor
            rw [HEV.out] at hw
            refine (events_any _ _ _ _ _ hw).mono ?_
            rintro e w3 ⟨v3, rfl, hq3, hb3⟩; dsimp only
            have HO3 := Lib.hid (HO2.out.below hb3)
            have HW4 := Lib.hid (HW3.out.trans (hb3.mono HW3.out.size))
            have hv3 : ∃ a3 cap3, v3 = .slice a3 0 cap3 := by
              rcases hq3.2 with ⟨h0, _⟩ | ⟨g3, cap3, _, hv, _⟩
              · exact ⟨none, 0, h0⟩
              · exact ⟨some ⟨g3, 0, none⟩, cap3, hv⟩
            clear c27 hw hq3 hb3
            obtain ⟨a3, cap3, rfl⟩ := hv3
            obtain rfl := HNN.out
            go_wp2_with fail
            refine (awake_any _).mono ?_
            rintro e w4 ⟨rfl, hb⟩; dsimp only
            have HO4 := Lib.hid (HO3.out.below hb)
            have HW5 := Lib.hid (HW4.out.trans (hb.mono HW4.out.size))
            clear hb
            go_wp2_with fail
            have hs4 := state_any _ C lv2 _ HO4.out
            rw [HST.out] at hs4
            refine hs4.mono ?_
            clear hs4
            rintro e w6 ⟨rfl, rfl⟩; dsimp only
            go_wp2_with fail
            go_ret
            exact ⟨rfl, HW5.out⟩
          · have HST := Lib.hid hst
            have HEV := Lib.hid hev
            obtain rfl := hns2
            have ile : ¬ ((N : Nat) : Int) ≤ (s : Int) := by omega
            have ien : (((s + 1 : Nat) : Int) == (s : Int) + 1) = true := by simp
            have GL := Lib.hid gl1
            have HX := Lib.hid hx
            have HBAD := Lib.hid hbad
            clear hst hev hlt2 HM
            go_wp2_with fail
            have hw := HO2.out.wor
            rw [HEV.out] at hw
            refine (events_any _ _ _ _ _ hw).mono ?_
            rintro e w3 ⟨v3, rfl, hq3, hb3⟩; dsimp only
            have HO3 := Lib.hid (HO2.out.below hb3)
            have HW4 := Lib.hid (HW3.out.trans (hb3.mono HW3.out.size))
            have HC3 := Lib.hid (HC2.out.trans (hb3.mono HC2.out.size))
            have HQ3 := Lib.hid hq3
            have hv3 : ∃ g3 cap3, v3 = .slice (some ⟨g3, 0, none⟩) 1 cap3 := by
              rcases hq3.2 with ⟨_, h0⟩ | ⟨g3, cap3, _, hv, _⟩
              · cases h0
              · exact ⟨g3, cap3, hv⟩
            clear c27 hw hq3 hb3
            obtain ⟨g3, cap3, rfl⟩ := hv3
            have E0 := Lib.hid (evs_cell HQ3.out 0 (Value.int .i64 want) rfl)
            have KR := Lib.hid (fun w lv h => run_any w C lv (fun _ => mm) 0 5 (by decide) (by decide) h (fun k hk => absurd hk (Nat.not_lt_zero k)) (Or.inr (show mm.state ≠ 0 by rw [HST.out]; decide)))
            go_wp2_with fail
            refine (awake_any _).mono ?_
            rintro e w4 ⟨rfl, hb⟩; dsimp only
            have HO4 := Lib.hid (HO3.out.below hb)
            have HC4 := Lib.hid (HC3.out.trans (hb.mono HC3.out.size))
            have ec := (hb.cell (p := ⟨g3, 0, none⟩) (World.block_lt_of_cell? _ _ E0.out)).trans E0.out
            clear hb
            go_wp2_with fail
            have hs4 := state_any _ C lv2 _ HO4.out
            rw [HST.out] at hs4
            refine hs4.mono ?_
            clear hs4
            rintro e w6 ⟨rfl, rfl⟩; dsimp only
            go_wp2_with fail
            refine (KR.out _ _ HO4.out).mono ?_
            rintro e w7 ⟨rfl, lv7, h7x, f7, k7⟩; dsimp only
            have HC7 := Lib.hid (below_step HC4.out f7 HN2.out)
            have HW7 := Lib.hid (HB1.out.trans (HC7.out.mono HB1.out.size))
            clear h7x f7 k7 ec
            have hx7 := Below.row HC7.out HX.out HX.out.lt
            obtain ⟨yc, yf, yr, ys, yl⟩ := hx7.sees
            have KB := Lib.hid (begin_any w7 r hr g cap (nopB s bad) (Nat.lt_of_lt_of_le GL.out HC7.out.size) (fun k hk => (HC7.out.cell (p := ⟨g, k, none⟩) GL.out).trans (HBYc.out k hk)) (nopB_wf s bad HBAD.out.1 HBAD.out.2) (by rw [nopB_length]; decide))
            rw [nopB_length] at KB
            clear hx7
            go_wp2_with fail
            refine KB.out.mono ?_
            clear KB yc yf yr ys yl
            rintro e w8 ⟨C8, lv8, rfl, ho8, hb8, hn8⟩; dsimp only
            have HW8 := Lib.hid (HW7.out.trans (hb8.mono HW7.out.size))
            clear ho8 hb8 hn8
            go_wp2_with fail
            refine (run_none _ _ _ ?_).mono ?_
            · omega
            rintro e w9 ⟨rfl, rfl⟩; dsimp only
            go_wp2_with fail
            go_ret
            exact ⟨rfl, HW8.out⟩
end Go.Proofs.YtcglkefaopgjeaaGreatDoor

/- CpuRuns: for every input the law returns true, and its arguments read as before; conditions: hansom/addr.bases holds its own text. -/
namespace Go.Proofs.YtcglkefaopgjeaaGreatDoor.cpuRuns
set_option linter.unusedSimpArgs false
set_option linter.unusedVariables false
open Go.ChangeShapes Go.WideShapes Go.ChangeAt Go.RowKit

theorem walk (R0 : Regs) (w0 : R0.wf) (a1 : Int) (w1 : (Lit.int .i64 a1).wf = true) (a2 : Int) (w2 : (Lit.int .i64 a2).wf = true) (w : World) :
    Calls Tryz.prog 10 #[R0.val, .int .i64 a1, .int .i64 a2] w fun e w' => e = .returned (.bool true) ∧ Below w.heap.size w w' := by
  obtain ⟨s, es⟩ : ∃ s : Nat, a2 % 16 = (s : Int) := ⟨(a2 % 16).toNat, by omega⟩
  obtain ⟨N, eN⟩ : ∃ N : Nat, a1 % 32 = (N : Int) := ⟨(a1 % 32).toNat, by omega⟩
  obtain ⟨q, eq⟩ : ∃ q : Nat, (a2 / 16) % 4 = (q : Int) := ⟨((a2 / 16) % 4).toNat, by omega⟩
  have hq4 : q = 0 ∨ q = 1 ∨ q = 2 ∨ q = 3 := by omega
  obtain ⟨bad, hb⟩ : ∃ bad : Int, (q = 0 ∧ bad = 244) ∨ (q = 1 ∧ bad = 15) ∨ (q = 2 ∧ bad = 96) ∨ (q = 3 ∧ bad = 214) := by
    rcases hq4 with h | h | h | h
    · exact ⟨244, Or.inl ⟨h, rfl⟩⟩
    · exact ⟨15, Or.inr (Or.inl ⟨h, rfl⟩)⟩
    · exact ⟨96, Or.inr (Or.inr (Or.inl ⟨h, rfl⟩))⟩
    · exact ⟨214, Or.inr (Or.inr (Or.inr ⟨h, rfl⟩))⟩
  exact cpuRuns_any R0 w0 a1 a2 s N q bad ((i64_mask a2 4 15 rfl (by decide)).trans es) (by omega) ((i64_mask a1 5 31 rfl (by decide)).trans eN) (by omega) ((i64_mask (a2 / 16) 2 3 rfl (by decide)).trans eq) (a1 % 8) (i64_mask a1 3 7 rfl (by decide)) (by omega) (by omega) hb w

set_option maxRecDepth 100000 in
theorem lifted (os : Os) (started : os.Started) (H : Type) (enc : TypeId × Value → H) :
    ReturnsInHanded {} Tryz.checked os 10 .any (fun w args => (Rows.cpuRunsSpec.pre enc Tryz.prog Tryz.f10 [] false w args ∧ laidMetH Tryz.prog [("hansom/addr.bases", Rows.laid_hansom_addr_bases)] w) ∧ sizedMet enc Tryz.prog Tryz.f10 (OpenSpec.ofChange Rows.cpuRunsSpec) false w args)
      (Rows.cpuRunsSpec.post enc Tryz.prog Tryz.f10 false true false false) := by
  refine returnsInHanded_of_change_and (C := Tryz.checked) (X := fun w _ => laidMetH Tryz.prog [("hansom/addr.bases", Rows.laid_hansom_addr_bases)] w) (fun _ _ _ hh h => h.of_heap hh) own started (by kernel_rfl) Tryz.func10
    (ChangeSpec.witness_shaped (enc := enc) (C := Tryz.checked) (os := os) (X := fun w _ => laidMetH Tryz.prog [("hansom/addr.bases", Rows.laid_hansom_addr_bases)] w) false (World.doorLaid Tryz.prog 4000 os) #[zeroRegs.val, .int .i64 0, .int .i64 0] 8 rfl (World.shaped_of_RefB (by kernel_rfl) (by kernel_rfl)) (by kernel_rfl) (by kernel_rfl) (by kernel_rfl) (door_met os _)) ?_
  intro W base args ds gs before hval0 hW _ _ hL _
  have hval : ∀ (j : Nat) t v, Tryz.f10.params[j]? = some t → args[j]? = some v → Value.okWide Tryz.prog W .any base t v := hval0
  have hW' := hW
  obtain ⟨p, q, hA0, hV, rfl, hfz, hnd⟩ := hW
  have hA : DataW.TrodAll enc Tryz.prog W 0 (fun _ => true) true Tryz.f10.params.toList args.toList ds p := hA0
  rw [Tryz.params10] at hA hval
  obtain ⟨v0, vs0, d0, ds0, p0, q0, hargs, rfl, rfl, h0, r0⟩ := trodAll_cons hA
  obtain ⟨v1, vs1, d1, ds1, p1, q1, rfl, rfl, rfl, h1, r1⟩ := trodAll_cons r0
  obtain ⟨v2, vs2, d2, ds2, p2, q2, rfl, rfl, rfl, h2, r2⟩ := trodAll_cons r1
  obtain ⟨rfl, rfl, rfl⟩ := trodAll_nil r2
  obtain rfl : args = #[v0, v1, v2] := by cases args; simp_all
  obtain ⟨rfl, rfl⟩ := trodVars_none hV
  obtain ⟨R0, rfl, w0, rfl⟩ := open_regs (hval 0 _ v0 rfl rfl) h0
  obtain ⟨a1, rfl, rfl, rfl, w1⟩ := open_int Tryz.underlying3 (hval 1 _ v1 rfl rfl) h1
  obtain ⟨a2, rfl, rfl, rfl, w2⟩ := open_int Tryz.underlying3 (hval 2 _ v2 rfl rfl) h2
  clear hA0 hval0
  simp only [List.append_nil] at hW'
  refine (walk R0 w0 a1 w1 a2 w2 W).mono fun e W' ⟨he, hg⟩ => ?_
  subst he
  exact ⟨_, rfl, _, _, _, [], [], [], hW', trodAll_cons_mk (shut_bool Tryz.underlying4 _) trodAll_mk0, (trodAll_cons_mk (regs_stays h0) (trodAll_cons_mk (shut_int Tryz.underlying3 w1) (trodAll_cons_mk (shut_int Tryz.underlying3 w2) trodAll_mk0))), rfl, hg.frame _, fun h => by cases h⟩

theorem row_holds : Rows.CpuRunsSaid :=
  OpenClaim.holds_of_wide 10 Tryz.f10 rfl rfl rfl rfl rfl rfl rfl ⟨rfl, rfl, rfl, rfl, rfl⟩ rfl rfl rfl rfl rfl (by kernel_rfl) Tryz.func10 (by kernel_rfl)
    (of_decide_eq_true (by kernel_rfl)) (by unfold Func.isWrapper; first | (rw [if_pos (by decide +kernel)]; kernel_rfl) | (rw [if_neg (by decide +kernel)]; exact ⟨rfl, rfl⟩))
    (fun os started H enc _ => lifted os started H enc)
end Go.Proofs.YtcglkefaopgjeaaGreatDoor.cpuRuns
