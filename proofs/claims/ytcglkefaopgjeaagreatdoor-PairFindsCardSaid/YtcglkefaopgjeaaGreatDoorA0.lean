/- A drawn region whose operations keep a class of worlds, but for a last chain of operations that wait for all others: one walk serves every order. No program in sight. -/
import Derived.StillTail
import Derived.Deep.Quiet
import Derived.BigQuiet
import Derived.Below
import Derived.WalkKit
namespace Go.Proofs.YtcglkefaopgjeaaGreatDoor
set_option linter.unusedSimpArgs false
set_option linter.unusedVariables false
open Go Go.RowKit

section
variable {P : Program} {ops : Array Oper} {md : Region.Mode} {C : World → Prop}

/-- The first operations, whatever order is picked; L is what stands behind them. -/
def wpHd (P : Program) (md : Region.Mode) (ops : Array Oper) (C : World → Prop) (n : Nat) (L : Array Bool → Act → Prop) : Nat → Array Bool → Act → Prop
  | 0, li, a => L li a
  | f + 1, li, a => Region.ready md ops li ≠ [] ∧ ∀ i ∈ Region.ready md ops li, i < n ∧ qOp P ops C i (wpHd P md ops C n L f (li.setIfInBounds i true)) a

theorem any_of_hd {n g : Nat} {L : Array Bool → Act → Prop} {Q : Exit → Act → World → Prop} (hL : ∀ li a w, C w → L li a → wpAny P md ops Q g li a w) (f : Nat) :
    ∀ (li : Array Bool) (a : Act) (w : World), C w → wpHd P md ops C n L f li a → wpAny P md ops Q (f + g) li a w := by
  induction f with
  | zero => intro li a w hC h; rw [Nat.zero_add]; exact hL _ _ _ hC h
  | succ f ih =>
    intro li a w hC h
    rw [Nat.add_right_comm]
    exact ⟨fun h0 => absurd h0 h.1, fun i hi => wpOp_of_qOp hC (fun a' w' hw' hk => ih _ a' w' hw' hk) (h.2 i hi).2⟩

theorem hd_ready {n : Nat} {li : Array Bool} (hs : Region.sinkB md ops n = true) (hc : Region.chainB md ops n = true) (hn : n < ops.size) (inv : HeadInv md ops n li) {i : Nat} (hi : i < n) (hr : i ∈ Region.ready md ops li) :
    Region.ready md ops li ≠ [] ∧ ∀ j ∈ Region.ready md ops li, j < n := by
  refine ⟨fun h => (by rw [h] at hr; cases hr), fun j hj => ?_⟩
  rcases Nat.lt_or_ge j n with h | h
  · exact h
  · exact absurd hj (tail_waits hs hc hn inv _ i rfl hi (mem_ready.1 hr).1 j h)

/-- One that is ready and keeps the class may be taken first. -/
theorem hd_first {n i : Nat} {oi : Oper} {v : Value} {L : Array Bool → Act → Prop} (hi : ops[i]? = some oi) (hsel : ∀ (j : Nat) (o : Oper) cs b, ops[j]? = some o → o.op ≠ .select cs b)
    (hs : Region.sinkB md ops n = true) (hc : Region.chainB md ops n = true) (hn : n < ops.size) (hin : i < n) (hL : ∀ li a, L li a → ∀ j ∈ Region.ready md ops li, n ≤ j) (f : Nat) :
    ∀ (li : Array Bool) (a : Act), HeadInv md ops n li →
      (∀ j oj, ops[j]? = some oj → j ≠ i → li.getD j true = false → (∀ e ∈ oj.after, Region.binds md e = true → e.on ≠ i) → oi.apart ops oj = true) →
      i ∈ Region.ready md ops li → YieldsIn P ops C oi v a → wpHd P md ops C n L f (li.setIfInBounds i true) (a.put oi.dst v) → wpHd P md ops C n L (f + 1) li a := by
  induction f with
  | zero =>
    intro li a inv _ hr hy H
    have hd := hd_ready hs hc hn inv hin hr
    refine ⟨hd.1, fun j hj => ⟨hd.2 j hj, ?_⟩⟩
    by_cases e : j = i
    · subst e; exact hy.qOp hi H
    · have h1 := hL _ _ H j (ready_mono hj e)
      have h2 := hd.2 j hj
      omega
  | succ f ih =>
    intro li a inv hfree hr hy H
    have hd := hd_ready hs hc hn inv hin hr
    have hun := (mem_ready.1 hr).1
    refine ⟨hd.1, fun j hj => ⟨hd.2 j hj, ?_⟩⟩
    by_cases e : j = i
    · subst e; exact hy.qOp hi H
    · obtain ⟨hju, oj, hoj, hall⟩ := mem_ready.1 hj
      have hno : ∀ x ∈ oj.after, Region.binds md x = true → x.on ≠ i := by
        intro x hx hb hq
        have h1 := hall x hx hb
        rw [hq, getD_both hun] at h1
        cases h1
      have hq := qOp_put hoj (hfree j oj hoj e hju hno) (fun cs b => hsel i oi cs b hi) (fun cs b => hsel j oj cs b hoj) hy (H.2 j (ready_mono hj e)).2
      refine qOp_mono (fun a' h3 => ih (li.setIfInBounds j true) a' (inv.set hj (hd.2 j hj)) ?_ (ready_mono hr (Ne.symm e)) h3.1 ?_) hq
      · intro k ok hk hki hu hx
        refine hfree k ok hk hki ?_ hx
        by_cases hjk : j = k
        · subst hjk; exact hju
        · rwa [getD_set_ne true hjk] at hu
      · rw [Array.setIfInBounds_comm _ _ e]
        exact h3.2

theorem hd_lex {n g : Nat} {Lq : Act → Prop} (hsel : Region.noSelect ops = true) (hs : Region.sinkB md ops n = true) (hc : Region.chainB md ops n = true) (hn : n < ops.size) (l : List Oper) :
    ∀ (k : Nat) (li : Array Bool) (a : Act), (∀ j, j < l.length → l[j]? = ops[k + j]?) → k + l.length = n → HeadInv md ops n li →
      Region.lexHead md ops g l.length k li = true → wpQuiet P ops C Lq l a →
      wpHd P md ops C n (fun li' a' => Region.seqB md ops g n li' = true ∧ Lq a') l.length li a := by
  induction l with
  | nil =>
    intro k li a _ hk _ hB h
    obtain rfl : k = n := by simpa using hk
    exact ⟨by simpa [Region.lexHead] using hB, h⟩
  | cons o l ih =>
    intro k li a hl hk inv hB h
    have h0 : ops[k]? = some o := by simpa using (hl 0 (by simp)).symm
    simp only [List.length_cons, Region.lexHead, Bool.and_eq_true] at hB
    have hkn : k < n := by simp only [List.length_cons] at hk; omega
    have hr : k ∈ Region.ready md ops li := by simpa using hB.1.1
    have hst : qOp P ops C k (wpQuiet P ops C Lq l) a := by unfold qOp; simp only [h0]; exact h
    obtain ⟨v, hy, hK⟩ := yieldsIn_of_qOp h0 hst
    refine hd_first h0 (Region.noSelect_spec hsel) hs hc hn hkn (fun li' a' hx => seqB_ready hx.1) l.length li a inv (Region.free_spec h0 hB.1.2) hr hy ?_
    refine ih (k + 1) _ _ (fun j hj => ?_) (by simp only [List.length_cons] at hk; omega) (inv.set hr hkn) hB.2 hK
    have := hl (j + 1) (by simp; omega)
    simpa [Nat.add_assoc, Nat.add_comm 1 j] using this

theorem wp_region_tail {id : Nat} {Q : Exit → Act → World → Prop} {a : Act} {w : World} {l : List Oper} (n : Nat) (hm : P.follows .mixedOrders = true) (hB : Region.lexTailB .any l.toArray n = true) (hC : C { w with drawn := w.drawn + 1 })
    (h : wpQuiet P l.toArray C (fun a' => ∀ w', C w' → wpList P l.toArray Q (l.drop n) a' w') (l.take n) a) : (Code.region id l.toArray true).wp P Q a w := by
  simp only [Region.lexTailB, Bool.and_eq_true, decide_eq_true_eq] at hB
  obtain ⟨⟨⟨⟨hsel, hn⟩, hs⟩, hc⟩, hlex⟩ := hB
  have hn' : n < l.length := by simpa using hn
  have htl : (l.take n).length = n := by simp; omega
  have hdl : (l.drop n).length = l.toArray.size - n := by simp
  have inv0 : HeadInv .any l.toArray n (Array.replicate l.toArray.size false) :=
    ⟨by simp, fun j oj _ hl => (by rw [getD_replicate_false] at hl; cases hl), fun t _ ht => getD_in (by simpa using ht) (getD_replicate_false _ _)⟩
  have H := hd_lex (md := .any) (g := l.toArray.size - n) hsel hs hc hn (l.take n) 0 _ a (fun j hj => by
    rw [htl] at hj
    simp [hj]) (by simpa using htl) inv0 (by rw [htl]; exact hlex) h
  refine wp_region_any hm ?_
  have hA := any_of_hd (Q := Q) (g := l.toArray.size - n) (fun li a' w' hw' hx => by
    have := wpAny_of_seq (md := .any) (Q' := Q) (l.drop n) n li a' w' (fun j => by simp [List.getElem?_drop]) (by rw [hdl]; exact hx.1) (hx.2 w' hw')
    rwa [hdl] at this) _ _ _ _ hC H
  rwa [htl, show n + (l.toArray.size - n) = l.toArray.size by omega] at hA

theorem wp_region_tail_range {S : Type} (ω : S → World) {id : Nat} {Q : Exit → Act → World → Prop} {a : Act} {w : World} {l : List Oper} (n : Nat) (hm : P.follows .mixedOrders = true) (hB : Region.lexTailB .any l.toArray n = true) (hC : ∃ q, { w with drawn := w.drawn + 1 } = ω q)
    (h : wpQuiet P l.toArray (fun w' => ∃ q, w' = ω q) (fun a' => ∀ w', (∃ q, w' = ω q) → wpList P l.toArray Q (l.drop n) a' w') (l.take n) a) : (Code.region id l.toArray true).wp P Q a w :=
  wp_region_tail (C := fun w' => ∃ q, w' = ω q) n hm hB hC h
end

section
open BigFrame
variable {P : Program} {ops : Array Oper}
/-- A drawn region in a class of worlds that is the range of a function. -/
theorem wp_region_range {S : Type} (ω : S → World) {id : Nat} {Q : Exit → Act → World → Prop} {a : Act} {w : World} (hm : P.follows .mixedOrders = true) (hB : Region.lexB .any ops = true) (hC : ∃ n, { w with drawn := w.drawn + 1 } = ω n)
    (h : wpQuiet P ops (fun w' => ∃ n, w' = ω n) (fun a' => ∀ w', (∃ n, w' = ω n) → Q .normal a' w') ops.toList a) : (Code.region id ops true).wp P Q a w :=
  wp_region_quiet (C := fun w' => ∃ n, w' = ω n) hm hB hC h

theorem wp_region_range_lit {S : Type} (ω : S → World) {id : Nat} {Q : Exit → Act → World → Prop} {a : Act} {w : World} {l : List Oper} (hm : P.follows .mixedOrders = true) (hB : Region.lexB .any l.toArray = true) (hC : ∃ n, { w with drawn := w.drawn + 1 } = ω n)
    (h : wpQuiet P l.toArray (fun w' => ∃ n, w' = ω n) (fun a' => ∀ w', (∃ n, w' = ω n) → Q .normal a' w') l a) : (Code.region id l.toArray true).wp P Q a w :=
  wp_region_range ω hm hB hC (by simpa using h)

/-- The worlds that agree with one world below its end, as the range of a function. -/
theorem range_of (wc : World) {G : Prop} (h : ∀ (S : Type) (_ : Nonempty S) (ω : S → World), (∀ q, Below wc.heap.size wc (ω q)) → (∀ w, Below wc.heap.size wc w → ∃ q, w = ω q) → G) : G :=
  h {w // Below wc.heap.size wc w} ⟨⟨wc, Below.refl _ _⟩⟩ (fun q => q.1) (fun q => q.2) (fun w hw => ⟨⟨w, hw⟩, rfl⟩)

/-- A call in such a class. -/
theorem range_call {S : Type} {ω : S → World} {wc : World} (hin : ∀ q, Below wc.heap.size wc (ω q)) (hout : ∀ w, Below wc.heap.size wc w → ∃ q, w = ω q) {f : FuncId} {args : Array Value} {v : Value}
    (h : ∀ w, Calls P f args w fun e w' => e = .returned v ∧ Below w.heap.size w w') (q : S) : Calls P f args (ω q) fun e w'' => e = .returned v ∧ ∃ m, w'' = ω m :=
  (h (ω q)).mono fun _ w' ⟨he, hb⟩ => ⟨he, hout w' ((hin q).trans (hb.mono (hin q).size))⟩

theorem range_cell {S : Type} {ω : S → World} {wc : World} (hin : ∀ q, Below wc.heap.size wc (ω q)) {p : Addr} {v : Value} (h : wc.cell? p = some v) (q : S) : (ω q).cell? p = some v :=
  ((hin q).cell (World.block_lt_of_cell? _ _ h)).trans h
end
end Go.Proofs.YtcglkefaopgjeaaGreatDoor
