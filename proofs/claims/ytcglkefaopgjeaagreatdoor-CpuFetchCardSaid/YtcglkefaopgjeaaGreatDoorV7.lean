/- Parts of the proof, in one text: YtcglkefaopgjeaaGreatDoorS8 YtcglkefaopgjeaaGreatDoorSA YtcglkefaopgjeaaGreatDoorS7. Each part's own remark says what it proves; conditions: those of each theorem. -/
import Derived.Test.YtcglkefaopgjeaaGreatDoorV5
import Derived.Deep.RegionLaw
import Derived.Test.YtcglkefaopgjeaaGreatDoorV4
import Derived.Deep.CutBlock

/- Steps of regions that draw their order: bytes are appended; two. -/
namespace Go.Proofs.YtcglkefaopgjeaaGreatDoor
set_option linter.unusedSimpArgs false
set_option linter.unusedVariables false
open Go.RowKit

theorem run_callFunc_own {P : Program} {f : FuncId} {fn : Func} (hf : P.funcs[f]? = some fn) (hname : (fn.name == "runtime.NumGoroutine") = false) (hb : fn.body.isNone = false) (args : Array Value) (w : World) : (callFunc f args).run P w = .ok (.enter f args) w := by
  have h1 : fn.name ≠ "runtime.NumGoroutine" := by simpa using hname
  have h2 : ¬ fn.body = none := by intro e; rw [e] at hb; cases hb
  simp [callFunc, hf, h1, h2, Sem.run]
theorem step_calls {P : Program} {ops : Array Oper} {o : Oper} {a : Act} {w : World} {K : Act → World → Prop} {Q : Exit → Act → World → Prop} {E : Prop}
    (hg : o.guard = none) (f : FuncId) (xs : Array Operand) (ts : Array TypeId) (hop : o.op = Op.call { callee := Callee.value (.func f), args := xs, argTypes := ts })
    (hf : ∀ args w, (callFunc f args).run P w = .ok (.enter f args) w)
    (vs : Array Value) (hx : xs.map a.eval = vs) (hc : Calls P f vs w fun e w' => ∃ u, e = .returned u ∧ K (a.put o.dst u) w') :
    if Region.wanted o (yielded ops a.tmps) = true then Oper.wp P o a w K Q else E := by
  have hw : Region.wanted o (yielded ops a.tmps) = true := by simp [Region.wanted, hg]
  rw [if_pos hw]
  unfold Oper.wp
  have hex : (execOp a.eval o).run P w = .ok (.enter f vs) w := by
    rw [← hf vs w, ← hx]
    have he : a.eval (.func f) = .func (.func f) #[] #[] := rfl
    simp [execOp, hop, resolve, invoke, he, Deferred.ofValue]
  rw [hex, Oper.upon_enter]
  refine hc.mono ?_
  rintro e w' ⟨u, rfl, hk⟩
  exact hk
theorem own_two (args : Array Value) (w : World) : (callFunc 49 args).run Tryz.prog w = .ok (.enter 49 args) w := run_callFunc_own Tryz.func49 (by rfl) (by rfl) args w
theorem own_disps (args : Array Value) (w : World) : (callFunc 44 args).run Tryz.prog w = .ok (.enter 44 args) w := run_callFunc_own Tryz.func44 (by rfl) (by rfl) args w
end Go.Proofs.YtcglkefaopgjeaaGreatDoor

/- What the reference's Put has at its steps: appended bytes, words' bytes. -/
namespace Go.Proofs.YtcglkefaopgjeaaGreatDoor
set_option linter.unusedSimpArgs false
set_option linter.unusedVariables false
open Go.RowKit

def bytesV (l : List Int) : List Value := l.map fun x => .int .u8 x
theorem bytesV_app (a b : List Int) : bytesV (a ++ b) = bytesV a ++ bytesV b := by simp [bytesV]
theorem bytesV_len (a : List Int) : (bytesV a).length = a.length := by simp [bytesV]
/-- What Put has at its steps. -/
structure PutAt (w wx : World) (i : Inst) (r : IRow) (kr : Nat) (v : Value) (l : List Int) : Prop where
  b : Below w.heap.size w wx
  i : Row wx w.heap.size i.cells 30
  r : Row wx kr #[.int .i64 r.name, .int .i64 r.a, .int .i64 r.b, .bool r.mod] 47
  k : w.heap.size < kr
  o : wx.ownsRow (kr + 1) 5 1 v l.length (bytesV l)
theorem PutAt.on {w wx wy : World} {i : Inst} {r : IRow} {kr : Nat} {v : Value} {l : List Int} (h : PutAt w wx i r kr v l) (hb : Below wx.heap.size wx wy) (ho : wy.ownsRow (kr + 1) 5 1 v l.length (bytesV l)) : PutAt w wy i r kr v l :=
  ⟨h.b.trans (hb.mono h.b.size), Below.row hb h.i h.i.lt, Below.row hb h.r h.r.lt, h.k, ho⟩
theorem PutAt.app {w wx w1 : World} {i : Inst} {r : IRow} {kr : Nat} {v v' : Value} {l l2 : List Int} (h : PutAt w wx i r kr v l) (hown : w1.ownsRow (kr + 1) 5 1 v' (l.length + l2.length) (bytesV l ++ bytesV l2)) (hg : wx.grownBy w1 v.ownBlock) : PutAt w w1 i r kr v' (l ++ l2) := by
  have hk := h.r.lt
  have hob := fun b hb => (h.o.lt b hb).1
  have hbk : Below (kr + 1) wx w1 := Below.grown (Below.refl (kr + 1) wx) hg (by omega) hob
  have hki := h.k
  refine ⟨h.b.trans (hbk.mono (by omega)), Below.row hbk h.i (by omega), Below.row hbk h.r (by omega), h.k, ?_⟩
  rw [bytesV_app, List.length_append]
  exact hown
theorem PutAt.alloc {w wx : World} {i : Inst} {r : IRow} {kr : Nat} {v : Value} {l : List Int} (h : PutAt w wx i r kr v l) (o : Obj) : PutAt w (wx.alloc o) i r kr v l :=
  h.on ((Below.refl _ _).alloc (Nat.le_refl _) _) (h.o.alloc _)
theorem PutAt.drew {w wx : World} {i : Inst} {r : IRow} {kr : Nat} {v : Value} {l : List Int} (h : PutAt w wx i r kr v l) : PutAt w wx.drew i r kr v l :=
  h.on (Below.refl _ _).drew (h.o.drew)
/-- Bytes are appended. -/
theorem wpList_push {ops : Array Oper} {rest : List Oper} {o : Oper} {a : Act} {Q : Exit → Act → World → Prop} (hgd : o.guard = none) (s x : Operand)
    (ho : o.op = .call { callee := .builtin .append, args := #[s, x], argTypes := #[32, 32] }) {w wy : World} {i : Inst} {r : IRow} {kr : Nat} {v : Value} {l : List Int} (hs : a.eval s = v) (h : PutAt w wy i r kr v l)
    (ad : Addr) (m c : Nat) (news : List Int) (hx : a.eval x = .slice (some ad) m c) (hm : news.length = m) (hc : ∀ j, j < m → wy.cell? (ad.add j) = some (.int .u8 (news.getD j 0))) (hl : l.length + m ≤ 100)
    (hq : ∀ v' w', PutAt w w' i r kr v' (l ++ news) → wpList Tryz.prog ops Q rest (a.put o.dst v') w') : wpList Tryz.prog ops Q (o :: rest) a wy := by
  obtain ⟨i0, hi0, hz0, hz1, hz2⟩ := info_parts info_u8
  refine wpList_append_own _ hgd s x 32 ho (kr + 1) 5 i0 _ 1 1 Tryz.underlying32 hi0 hz0 hz1 hz2 rfl (by omega) v l.length (bytesV l) hs h.o ad m c (bytesV news) hx (by rw [bytesV_len, hm]; omega) ?_ ?_ (by unfold maxLen; omega) (by omega) (by have := h.r.lt; omega) ?_
  · intro j u hj
    have hjm : j < news.length := by
      rcases Nat.lt_or_ge j news.length with e | e
      · exact e
      · rw [List.getElem?_eq_none (by rw [bytesV_len]; exact e)] at hj; cases hj
    rw [hc j (by omega)]
    rw [bytesV, List.getElem?_map, List.getElem?_eq_getElem hjm] at hj
    rw [List.getD_eq_getElem?_getD, List.getElem?_eq_getElem hjm]
    exact hj
  · intro u hu
    obtain ⟨y, -, rfl⟩ := List.mem_map.1 hu
    rfl
  · intro v' w' hown hg hat
    refine hq v' w' (h.app ?_ hg)
    rw [hm]
    exact hown
theorem step_push {ops : Array Oper} {o : Oper} {a : Act} {K : Act → World → Prop} {Q : Exit → Act → World → Prop} {E : Prop} (hgd : o.guard = none) (s x : Operand)
    (ho : o.op = .call { callee := .builtin .append, args := #[s, x], argTypes := #[32, 32] }) {w wy : World} {i : Inst} {r : IRow} {kr : Nat} {v : Value} {l : List Int} (h : PutAt w wy i r kr v l) (hs : a.eval s = v)
    (ad : Addr) (m c : Nat) (news : List Int) (hx : a.eval x = .slice (some ad) m c) (hm : news.length = m) (hc : ∀ j, j < m → wy.cell? (ad.add j) = some (.int .u8 (news.getD j 0))) (hl : l.length + m ≤ 100)
    (hq : ∀ v' w', PutAt w w' i r kr v' (l ++ news) → K (a.put o.dst v') w') : if Region.wanted o (yielded ops a.tmps) = true then Oper.wp Tryz.prog o a wy K Q else E := by
  have hw : Region.wanted o (yielded ops a.tmps) = true := by simp [Region.wanted, hgd]
  rw [if_pos hw]
  obtain ⟨i0, hi0, hz0, hz1, hz2⟩ := info_parts info_u8
  refine wp_append_own _ s x 32 ho (kr + 1) 5 i0 _ 1 1 Tryz.underlying32 hi0 hz0 hz1 hz2 rfl (by omega) v l.length (bytesV l) hs h.o ad m c (bytesV news) hx (by rw [bytesV_len, hm]; omega) ?_ ?_ (by unfold maxLen; omega) (by omega) (by have := h.r.lt; omega) ?_
  · intro j u hj
    have hjm : j < news.length := by
      rcases Nat.lt_or_ge j news.length with e | e
      · exact e
      · rw [List.getElem?_eq_none (by rw [bytesV_len]; exact e)] at hj; cases hj
    rw [hc j (by omega)]
    rw [bytesV, List.getElem?_map, List.getElem?_eq_getElem hjm] at hj
    rw [List.getD_eq_getElem?_getD, List.getElem?_eq_getElem hjm]
    exact hj
  · intro u hu
    obtain ⟨y, -, rfl⟩ := List.mem_map.1 hu
    rfl
  · intro v' w' hown hg hat
    refine hq v' w' (h.app ?_ hg)
    rw [hm]
    exact hown
theorem one_cell (wr : World) (x : Int) (j : Nat) (h : j < 1) : (wr.alloc (.cells #[.int .u8 x] 5)).cell? ((⟨wr.heap.size, 0, none⟩ : Addr).add j) = some (.int .u8 ([x].getD j 0)) := by
  obtain rfl : j = 0 := by omega
  exact ((Row.new wr #[.int .u8 x] 5).cell 0).trans rfl

def twoL (x : Int) : List Int := [x % 256, x / 256]
theorem two_cell (W : World) (x : Int) (m j : Nat) (hm : m ≤ 2) (hj : j < m) : (W.alloc (.cells #[.int .u8 (x % 256), .int .u8 (x / 256)] 5)).cell? ((⟨W.heap.size, 0, none⟩ : Addr).add j) = some (.int .u8 (((twoL x).take m).getD j 0)) := by
  have hr := Row.new W #[.int .u8 (x % 256), .int .u8 (x / 256)] 5
  have hj2 : j = 0 ∨ j = 1 := by omega
  have e : (⟨W.heap.size, 0, none⟩ : Addr).add j = ⟨W.heap.size, j, none⟩ := by unfold Addr.add; split <;> simp_all
  rw [e, hr.cell j, List.getD_eq_getElem?_getD, List.getElem?_take, if_pos hj]
  unfold twoL
  rcases hj2 with rfl | rfl <;> rfl
theorem two_at (W W2 : World) (x : Int) (n m j : Nat) (hw : W2 = W.alloc (.cells #[.int .u8 (x % 256), .int .u8 (x / 256)] 5)) (hn : n = W.heap.size) (hm : m ≤ 2) (hj : j < m) : W2.cell? ((⟨n, 0, none⟩ : Addr).add j) = some (.int .u8 (((twoL x).take m).getD j 0)) := by
  subst hw hn
  exact two_cell W x m j hm hj
theorem pre0_le (b : Bool) : (pre0 b).length ≤ 1 := by cases b <;> simp [pre0]
theorem pre1_le (n : Int) : (pre1 n).length ≤ 1 := by unfold pre1; split <;> simp
theorem pre2_le (n : Int) : (pre2 n).length ≤ 1 := by unfold pre2; split <;> simp


abbrev twoC (x : Int) : Array Value := #[.int .u8 (x % 256), .int .u8 (x / 256)]
/-- Words' bytes that lie in rows of their own, beside what Put has. -/
structure PutK (w wx : World) (i : Inst) (r : IRow) (kr : Nat) (v : Value) (l : List Int) (K : List (Nat × Int)) : Prop where
  p : PutAt w wx i r kr v l
  k : ∀ q ∈ K, Row wx q.1 (twoC q.2) 5 ∧ kr + 1 ≤ q.1 ∧ v.ownBlock ≠ some q.1
theorem PutAt.bare {w wx : World} {i : Inst} {r : IRow} {kr : Nat} {v : Value} {l : List Int} (h : PutAt w wx i r kr v l) : PutK w wx i r kr v l [] := ⟨h, fun q hq => by cases hq⟩
theorem PutAt.own_lt {w wx : World} {i : Inst} {r : IRow} {kr : Nat} {v : Value} {l : List Int} (h : PutAt w wx i r kr v l) (b : Nat) (hb : v.ownBlock = some b) : b < wx.heap.size := by
  obtain ⟨_, ⟨rfl, _⟩ | ⟨g, cap, cur, rfl, hg, hgr, _⟩⟩ := h.o
  · cases hb
  · cases hb
    rcases Nat.lt_or_ge g wx.heap.size with e | e
    · exact e
    · rw [Array.getElem?_eq_none e] at hgr; cases hgr
theorem step_two {ops : Array Oper} {o : Oper} {a : Act} {wx : World} {KK : Act → World → Prop} {Q : Exit → Act → World → Prop} {E : Prop} (hg : o.guard = none) (x : Operand)
    (hop : o.op = Op.call { callee := Callee.value (.func 49), args := #[x], argTypes := #[22] }) {w : World} {i : Inst} {r : IRow} {kr : Nat} {v : Value} {l : List Int} {K : List (Nat × Int)} (h : PutK w wx i r kr v l K)
    (n : Int) (n0 : 0 ≤ n) (n1 : n ≤ 65535) (hx : a.eval x = .int .u16 n) (hq : ∀ g w', PutK w w' i r kr v l ((g, n) :: K) → KK (a.put o.dst (.slice (some ⟨g, 0, none⟩) 2 2)) w') :
    if Region.wanted o (yielded ops a.tmps) = true then Oper.wp Tryz.prog o a wx KK Q else E := by
  refine step_calls hg 49 #[x] _ hop own_two #[.int .u16 n] (by simp [hx]) ((two_any5 n n0 n1 wx).mono ?_)
  rintro e w' ⟨rfl, rfl⟩
  refine ⟨_, rfl, hq wx.heap.size _ ⟨h.p.alloc _, ?_⟩⟩
  intro q hq
  rcases List.mem_cons.1 hq with rfl | hq
  · exact ⟨Row.new wx _ _, h.p.r.lt, fun e => Nat.lt_irrefl _ (h.p.own_lt _ e)⟩
  · exact ⟨(h.k q hq).1.alloc _, (h.k q hq).2⟩
theorem push_core {o : Oper} {a : Act} {KK : Act → World → Prop} {Q : Exit → Act → World → Prop} (s x : Operand)
    (ho : o.op = .call { callee := .builtin .append, args := #[s, x], argTypes := #[32, 32] }) {w wy : World} {i : Inst} {r : IRow} {kr : Nat} {v : Value} {l : List Int} {K : List (Nat × Int)} (h : PutK w wy i r kr v l K) (hs : a.eval s = v)
    (g : Nat) (n : Int) (hmem : (g, n) ∈ K) (m c : Nat) (hm : m ≤ 2) (hx : a.eval x = .slice (some ⟨g, 0, none⟩) m c) (hl : l.length ≤ 90)
    (hq : ∀ v' w', PutAt w w' i r kr v' (l ++ (twoL n).take m) → (∀ q ∈ K, Row w' q.1 (twoC q.2) 5) → KK (a.put o.dst v') w') : Oper.wp Tryz.prog o a wy KK Q := by
  obtain ⟨i0, hi0, hz0, hz1, hz2⟩ := info_parts info_u8
  have hlen : ((twoL n).take m).length = m := by simp [twoL]; omega
  have hr := (h.k (g, n) hmem).1
  refine wp_append_own _ s x 32 ho (kr + 1) 5 i0 _ 1 1 Tryz.underlying32 hi0 hz0 hz1 hz2 rfl (by omega) v l.length (bytesV l) hs h.p.o ⟨g, 0, none⟩ m c (bytesV ((twoL n).take m)) hx (by rw [bytesV_len, hlen]; omega) ?_ ?_ (by unfold maxLen; omega) (by omega) (by have := h.p.r.lt; omega) ?_
  · intro j u hj
    have hjm : j < m := by
      rcases Nat.lt_or_ge j m with e | e
      · exact e
      · rw [List.getElem?_eq_none (by rw [bytesV_len, hlen]; exact e)] at hj; cases hj
    have e : (⟨g, 0, none⟩ : Addr).add j = ⟨g, j, none⟩ := by unfold Addr.add; split <;> simp_all
    rw [e, hr.cell j]
    rw [bytesV, List.getElem?_map, List.getElem?_take, if_pos hjm] at hj
    have hj2 : j = 0 ∨ j = 1 := by omega
    rcases hj2 with rfl | rfl <;> exact hj
  · intro u hu
    obtain ⟨y, -, rfl⟩ := List.mem_map.1 hu
    rfl
  · intro v' w' hown hg hat
    refine hq v' w' (h.p.app (by rw [hlen]; exact hown) hg) ?_
    intro q hq2
    have hk := h.k q hq2
    have hb := hg.block q.1 hk.1.lt (fun e => hk.2.2 e.symm)
    exact Row.of_heap (hb.trans hk.1)
theorem step_push0 {ops : Array Oper} {o : Oper} {a : Act} {KK : Act → World → Prop} {Q : Exit → Act → World → Prop} {E : Prop} (hgd : o.guard = none) (s x : Operand)
    (ho : o.op = .call { callee := .builtin .append, args := #[s, x], argTypes := #[32, 32] }) {w wy : World} {i : Inst} {r : IRow} {kr : Nat} {v : Value} {l : List Int} {K : List (Nat × Int)} (h : PutK w wy i r kr v l K) (hs : a.eval s = v)
    (g : Nat) (n : Int) (hmem : (g, n) ∈ K) (m c : Nat) (hm : m ≤ 2) (hx : a.eval x = .slice (some ⟨g, 0, none⟩) m c) (hl : l.length ≤ 90)
    (hq : ∀ v' w', PutAt w w' i r kr v' (l ++ (twoL n).take m) → KK (a.put o.dst v') w') : if Region.wanted o (yielded ops a.tmps) = true then Oper.wp Tryz.prog o a wy KK Q else E := by
  have hw : Region.wanted o (yielded ops a.tmps) = true := by simp [Region.wanted, hgd]
  rw [if_pos hw]
  exact push_core s x ho h hs g n hmem m c hm hx hl (fun v' w' hp _ => hq v' w' hp)
theorem step_push3 {ops : Array Oper} {o : Oper} {a : Act} {KK : Act → World → Prop} {Q : Exit → Act → World → Prop} {E : Prop} (hgd : o.guard = none) (s x : Operand)
    (ho : o.op = .call { callee := .builtin .append, args := #[s, x], argTypes := #[32, 32] }) {w wy : World} {i : Inst} {r : IRow} {kr : Nat} {v : Value} {l : List Int} {K : List (Nat × Int)} (h : PutK w wy i r kr v l K) (hs : a.eval s = v)
    (g : Nat) (n : Int) (hmem : (g, n) ∈ K) (c : Nat) (hx : a.eval x = .slice (some ⟨g, 0, none⟩) 2 c) (hl : l.length ≤ 90) (hl1 : 1 ≤ l.length)
    (hq : ∀ v' w', PutK w w' i r kr v' (l ++ (twoL n).take 2) K → KK (a.put o.dst v') w') : if Region.wanted o (yielded ops a.tmps) = true then Oper.wp Tryz.prog o a wy KK Q else E := by
  have hw : Region.wanted o (yielded ops a.tmps) = true := by simp [Region.wanted, hgd]
  rw [if_pos hw]
  refine push_core s x ho h hs g n hmem 2 c (by omega) hx hl (fun v' w' hp hr => hq v' w' ⟨hp, fun q hq2 => ⟨hr q hq2, (h.k q hq2).2.1, ?_⟩⟩)
  intro e
  have hro : w'.heap[q.1]? = some (.cells (twoC q.2) 5 (0, 0)) := hr q hq2
  have hlen : (l ++ (twoL n).take 2).length = l.length + 2 := by simp [twoL]
  obtain ⟨_, ⟨_, h0⟩ | ⟨g2, cap, cur, rfl, hg2, hgr, hcn, hcm, hcs, _⟩⟩ := hp.o
  · omega
  · have e2 : g2 = q.1 := by simpa [Value.ownBlock] using e
    subst e2
    rw [hgr] at hro
    have hc : cur = twoC q.2 := by simpa using hro
    rw [hc] at hcs
    simp at hcs
    omega
theorem PutAt.done {w wx : World} {i : Inst} {r : IRow} {kr : Nat} {v : Value} {l : List Int} (h : PutAt w wx i r kr v l) (hl : 0 < l.length) :
    ∃ g cap : Nat, v = .slice (some ⟨g, 0, none⟩) l.length cap ∧ w.heap.size ≤ g ∧ g < wx.heap.size ∧ ∀ k, k < l.length → wx.cell? ⟨g, k, none⟩ = some (.int .u8 (l.getD k 0)) := by
  have ho := h.o
  obtain ⟨_, ⟨_, h0⟩ | ⟨g, cap, cur, rfl, hg, hgr, hcn, hcm, hcs, _⟩⟩ := h.o
  · omega
  · refine ⟨g, cap, rfl, by have := h.k; omega, h.own_lt g rfl, ?_⟩
    intro k hk
    have hcell := ho.cells (g := g) rfl k (.int .u8 (l.getD k 0)) (by
      rw [bytesV, List.getElem?_map, List.getD_eq_getElem?_getD, List.getElem?_eq_getElem hk]; rfl)
    have e : (⟨g, 0, none⟩ : Addr).add k = ⟨g, k, none⟩ := by unfold Addr.add; split <;> simp_all
    rwa [e] at hcell
end Go.Proofs.YtcglkefaopgjeaaGreatDoor

/- The reference's bytes of an instruction: walk. -/
namespace Go.Proofs.YtcglkefaopgjeaaGreatDoor
set_option linter.unusedSimpArgs false
set_option linter.unusedVariables false
open Go.RowKit

theorem PutAt.below {w wx wy : World} {i : Inst} {r : IRow} {kr : Nat} {v : Value} {l : List Int} (h : PutAt w wx i r kr v l) (hb : Below wx.heap.size wx wy) : PutAt w wy i r kr v l :=
  h.on hb (h.o.kept (row := none) ⟨hb.os, hb.tape, hb.output, hb.size, fun k hk _ => hb.block k hk⟩ (by by_cases e : v.ownBlock = none; exact Or.inl e; exact Or.inr e))

set_option maxRecDepth 100000 in
set_option maxHeartbeats 12800000 in
theorem put_any5 (i : Inst) (h : i.good) (w : World) : Calls Tryz.prog 15 #[i.val] w fun e w' => ∃ g cap : Nat, e = .returned (.slice (some ⟨g, 0, none⟩) (putL i).length cap) ∧ Below w.heap.size w w' ∧ w.heap.size ≤ g ∧ g < w'.heap.size ∧ ∀ k, k < (putL i).length → w'.cell? ⟨g, k, none⟩ = some (.int .u8 ((putL i).getD k 0)) := by
  obtain ⟨i0, hi0, hz0, hz1, hz2⟩ := info_parts info_u8
  have hrow : ∃ r, instRow i.op i.reg = some r := by
    have := h.may
    unfold mayB at this
    cases he : instRow i.op i.reg with
    | none => rw [he] at this; cases this
    | some r => exact ⟨r, rfl⟩
  obtain ⟨r, hr⟩ := hrow
  have HRow := Lib.hid (fun w => row_any5 i w h.wf.op.1 h.wf.op.2 h.wf.reg.1 h.wf.reg.2)
  rw [hr] at HRow
  have HL := Lib.hid (show putL i = pre0 i.lock ++ pre1 i.rep ++ pre2 i.seg ++ [i.op] ++ secL i r ++ immL (immsOf r) i.imm i.sel by unfold putL preL; rw [hr]; simp)
  have HG := Lib.hid h
  have w1 := h.wf.mod
  have w2 := h.wf.reg
  have w3 := h.wf.rm
  have w4 := h.wf.disp
  have w5 := h.wf.imm
  have w6 := h.wf.sel
  have w7 := h.rep
  have w8 := h.seg
  clear h hr
  obtain ⟨lock, rep, seg, op, mod, reg, rm, disp, imm, sel⟩ := i
  obtain ⟨rn, ra, rb, rmod⟩ := r
  have hi0' := Row.new w #[.bool lock, .int .i64 rep, .int .i64 seg, .int .u8 op, .int .i64 mod, .int .i64 reg, .int .i64 rm, .int .u16 disp, .int .u16 imm, .int .u16 sel] 30
  have HI0 := Lib.hid hi0'
  have HB0 := Lib.hid ((Below.refl w.heap.size w).alloc (Nat.le_refl _) (.cells #[.bool lock, .int .i64 rep, .int .i64 seg, .int .u8 op, .int .i64 mod, .int .i64 reg, .int .i64 rm, .int .u16 disp, .int .u16 imm, .int .u16 sel] 30))
  have xi0 := hi0'.cell
  clear hi0'
  dsimp only at w1 w2 w3 w4 w5 w6 w7 w8
  go_enter Tryz.func15, Tryz.ntmps15
  go_wp2_with fail
  generalize w.alloc (.cells #[.bool lock, .int .i64 rep, .int .i64 seg, .int .u8 op, .int .i64 mod, .int .i64 reg, .int .i64 rm, .int .u16 disp, .int .u16 imm, .int .u16 sel] 30) = W0 at *
  refine (HRow.out _).mono ?_
  rw [rowV_some]
  rintro e w1' ⟨rfl, hb⟩; dsimp only
  have HB1 := Lib.hid ((HB0.out.trans (hb.mono HB0.out.size)).alloc (Nat.le_trans HB0.out.size hb.size) (.cells #[.int .i64 rn, .int .i64 ra, .int .i64 rb, .bool rmod] 47))
  have HI1 := Lib.hid ((Below.row hb HI0.out HI0.out.lt).alloc (.cells #[.int .i64 rn, .int .i64 ra, .int .i64 rb, .bool rmod] 47))
  have HX1 := Lib.hid (Row.new w1' #[.int .i64 rn, .int .i64 ra, .int .i64 rb, .bool rmod] 47)
  have HK1 := Lib.hid (show w.heap.size < w1'.heap.size from Nat.lt_of_lt_of_le HI0.out.lt hb.size)
  clear hb xi0
  have bl0 := pre0_le lock
  have bl1 := pre1_le rep
  have bl2 := pre2_le seg
  go_upto_region 2 with fail
  have hk2 : w1'.heap.size + 1 = (w1'.alloc (.cells #[.int .i64 rn, .int .i64 ra, .int .i64 rb, .bool rmod] 47)).heap.size := by rw [World.size_alloc]
  generalize w1'.alloc (.cells #[.int .i64 rn, .int .i64 ra, .int .i64 rb, .bool rmod] 47) = W1 at HB1 HI1 HX1 hk2 ⊢
  generalize w1'.heap.size = kr at HX1 HK1 hk2 ⊢
  have hm := World.ownsRow_made (base := kr + 1) (e := 5) (size := 1) W1 #[] 0 (by rw [hk2]; exact Nat.le_refl _) (by unfold maxLen; omega) rfl
  have hb2 := HB1.out.alloc HB1.out.size (.cells #[] 5)
  have HP0 := Lib.hid (PutAt.mk (i := ⟨lock, rep, seg, op, mod, reg, rm, disp, imm, sel⟩) (r := ⟨rn, ra, rb, rmod⟩) (l := []) hb2 (HI1.out.alloc _) (HX1.out.alloc _) HK1.out hm)
  have K2 := Lib.hid hk2
  clear hm hb2 hk2
  have ci := HP0.out.i.cell
  have cr := HP0.out.r.cell
  go_upto_if 14 with fail
  generalize W1.alloc (.cells #[] 5) = W2 at HP0 ci cr ⊢
  generalize (Value.slice (some ⟨W1.heap.size, 0, none⟩) 0 0) = v0 at HP0 ⊢
  go_cut [5] (fun s5 wx => PutAt w wx ⟨lock, rep, seg, op, mod, reg, rm, disp, imm, sel⟩ ⟨rn, ra, rb, rmod⟩ kr s5 (pre0 lock))
  case first =>
    cases lock with
    | false => as_aux_lemma => (go_wp2_with fail; go_meet; exact HP0.out)
    | true => as_aux_lemma => (go_wp2_with (at_builtin; go_loud (refine wpList_push rfl _ _ rfl rfl (HP0.out.alloc _) ⟨_, 0, none⟩ 1 1 [240] rfl rfl (one_cell _ _) (by simp <;> omega) ?_; intro v' w1 HPN)); go_wp2_with fail; go_meet; exact HPN)
  case rest =>
  have HP1 := Lib.hid hcut
  clear hcut HP0 ci cr K2
  have ci := HP1.out.i.cell
  have cr := HP1.out.r.cell
  go_upto_if 20 with fail
  go_cut [5] (fun s5 wx => PutAt w wx ⟨lock, rep, seg, op, mod, reg, rm, disp, imm, sel⟩ ⟨rn, ra, rb, rmod⟩ kr s5 (pre0 lock ++ pre1 rep))
  case first =>
    by_cases q : 0 < rep
    · have e1 : IntKind.u8.wrap (wrap64 (241 + rep)) = 241 + rep := by unfold wrap64; rw [IntKind.wrap_u8]; omega
      have e2 : (241 + rep) % 256 = 241 + rep := by omega
      have HQ := Lib.hid (show [241 + rep] = pre1 rep by unfold pre1; rw [if_pos q])
      as_aux_lemma => (go_wp2_with (at_builtin; go_loud (refine wpList_push rfl _ _ rfl rfl (HP1.out.alloc _) ⟨_, 0, none⟩ 1 1 [241 + rep] rfl rfl (one_cell _ _) (by simp <;> omega) ?_; intro v' w1 HPN)); go_wp2_with fail; go_meet; rw [← HQ.out]; exact HPN)
    · have HQ := Lib.hid (show ([] : List Int) = pre1 rep by unfold pre1; rw [if_neg q])
      as_aux_lemma => (go_wp2_with fail; go_meet; rw [← HQ.out, List.append_nil]; exact HP1.out)
  case rest =>
  have HP2 := Lib.hid hcut
  clear hcut HP1 ci cr
  have ci := HP2.out.i.cell
  have cr := HP2.out.r.cell
  go_upto_if 30 with fail
  go_cut [5] (fun s5 wx => PutAt w wx ⟨lock, rep, seg, op, mod, reg, rm, disp, imm, sel⟩ ⟨rn, ra, rb, rmod⟩ kr s5 (pre0 lock ++ pre1 rep ++ pre2 seg))
  case first =>
    by_cases q : 0 < seg
    · have e0 : wrap64 (8 * seg) = 8 * seg := by unfold wrap64; omega
      have e1 : wrap64 (30 + 8 * seg) = 30 + 8 * seg := by unfold wrap64; omega
      have e2 : (30 + 8 * seg) % 256 = 30 + 8 * seg := by omega
      have HQ := Lib.hid (show [30 + 8 * seg] = pre2 seg by unfold pre2; rw [if_pos q])
      as_aux_lemma => (go_wp2_with (at_builtin; go_loud (refine wpList_push rfl _ _ rfl rfl (HP2.out.alloc _) ⟨_, 0, none⟩ 1 1 [30 + 8 * seg] rfl rfl (one_cell _ _) (by simp <;> omega) ?_; intro v' w1 HPN)); go_wp2_with fail; go_meet; rw [← HQ.out]; exact HPN)
    · have HQ := Lib.hid (show ([] : List Int) = pre2 seg by unfold pre2; rw [if_neg q])
      as_aux_lemma => (go_wp2_with fail; go_meet; rw [← HQ.out, List.append_nil]; exact HP2.out)
  case rest =>
  have HP3 := Lib.hid hcut
  clear hcut HP2 ci cr
  have ci := HP3.out.i.cell
  have cr := HP3.out.r.cell
  obtain ⟨L3, hL3⟩ : ∃ l, pre0 lock ++ pre1 rep ++ pre2 seg = l := ⟨_, rfl⟩
  have hlen3 : L3.length ≤ 3 := hL3 ▸ preL_le ⟨lock, rep, seg, op, mod, reg, rm, disp, imm, sel⟩
  rw [hL3] at HP3 HL
  clear hL3
  go_upto_region 9 with fail
  go_cut [5] (fun s5 wx => PutAt w wx ⟨lock, rep, seg, op, mod, reg, rm, disp, imm, sel⟩ ⟨rn, ra, rb, rmod⟩ kr s5 (L3 ++ [op]))
  case first => as_aux_lemma => (go_wp2_with (at_builtin; go_loud (refine wpList_push rfl _ _ rfl rfl (HP3.out.alloc _) ⟨_, 0, none⟩ 1 1 [op] rfl rfl (one_cell _ _) (by simp <;> omega) ?_; intro v' w1 HPN)); go_wp2_with fail; go_meet; exact HPN)
  case rest =>
  have HP4 := Lib.hid hcut
  clear hcut HP3 ci cr
  have ci := HP4.out.i.cell
  have cr := HP4.out.r.cell
  go_upto_if 45 with fail
  have hlen4 := secL_le ⟨lock, rep, seg, op, mod, reg, rm, disp, imm, sel⟩ ⟨rn, ra, rb, rmod⟩
  obtain ⟨L4, hL4⟩ : ∃ l, secL ⟨lock, rep, seg, op, mod, reg, rm, disp, imm, sel⟩ ⟨rn, ra, rb, rmod⟩ = l := ⟨_, rfl⟩
  rw [hL4] at HL hlen4
  have HL4 := Lib.hid hL4
  clear hL4
  go_cut [5] (fun s5 wx => PutAt w wx ⟨lock, rep, seg, op, mod, reg, rm, disp, imm, sel⟩ ⟨rn, ra, rb, rmod⟩ kr s5 (L3 ++ [op] ++ L4))
  case first =>
    cases rmod with
    | false =>
      have HQ := Lib.hid (show ([] : List Int) = L4 by rw [← HL4.out]; rfl)
      as_aux_lemma => (go_wp2_with fail; go_meet; rw [← HQ.out, List.append_nil]; exact HP4.out)
    | true =>
      have HQ := Lib.hid (show (64 * mod + 8 * reg + rm) :: dispL (dispsOf mod rm) disp = L4 by rw [← HL4.out]; rfl)
      clear HL4
      have e0 : wrap64 (64 * mod) = 64 * mod := by unfold wrap64; omega
      have e1 : wrap64 (8 * reg) = 8 * reg := by unfold wrap64; omega
      have e2 : wrap64 (64 * mod + 8 * reg) = 64 * mod + 8 * reg := by unfold wrap64; omega
      have e3 : wrap64 (64 * mod + 8 * reg + rm) = 64 * mod + 8 * reg + rm := by unfold wrap64; omega
      have e4 : (64 * mod + 8 * reg + rm) % 256 = 64 * mod + 8 * reg + rm := by omega
      go_upto_region 11 with fail
      go_cut [5] (fun s5 wx => PutAt w wx ⟨lock, rep, seg, op, mod, reg, rm, disp, imm, sel⟩ ⟨rn, ra, rb, true⟩ kr s5 (L3 ++ [op] ++ [64 * mod + 8 * reg + rm]))
      case first => as_aux_lemma => (go_wp2_with (at_builtin; go_loud (refine wpList_push rfl _ _ rfl rfl (HP4.out.alloc _) ⟨_, 0, none⟩ 1 1 [64 * mod + 8 * reg + rm] rfl rfl (one_cell _ _) (by simp <;> omega) ?_; intro v' w1 HPN)); go_wp2_with fail; go_meet; exact HPN)
      case rest =>
        have HP5 := Lib.hid hcut
        clear hcut HP4 ci cr e0 e1 e2 e3 e4
        have ci := HP5.out.i.cell
        have cr := HP5.out.r.cell
        have li := HP5.out.i.lt
        have lr := HP5.out.r.lt
        have li2 : ¬ w.heap.size = wc.heap.size := Nat.ne_of_lt li
        have li3 : ¬ wc.heap.size = w.heap.size := Ne.symm li2
        go_upto_region 12 with fail
        obtain ⟨d, hd, hd2⟩ : ∃ d : Nat, dispsOf mod rm = (d : Int) ∧ d ≤ 2 := by
          rcases disps3 mod rm with e | e | e <;> rw [e]
          · exact ⟨0, rfl, by omega⟩
          · exact ⟨1, rfl, by omega⟩
          · exact ⟨2, rfl, by omega⟩
        have KD := Lib.hid (fun w => hd ▸ disps_any5 mod rm w)
        have HQ2 := Lib.hid (show [64 * mod + 8 * reg + rm] ++ (twoL disp).take d = L4 by
          rw [← HQ.out, hd]
          have h3 : d = 0 ∨ d = 1 ∨ d = 2 := by omega
          rcases h3 with rfl | rfl | rfl <;> rfl)
        have d1 : (d : Int) ≤ 2 := by omega
        have d3 : (0 : Int) ≤ d := by omega
        have hS := HP5.out.drew.bare
        clear HQ hd
        go_region_law (first | (refine step_two rfl (.tmp 62) rfl (by with_reducible assumption) disp w4.1 w4.2 rfl ?_; intro gs w' hS; have ci := hS.p.i.cell) | (refine step_calls rfl 44 #[.tmp 65, .tmp 67] _ rfl own_disps #[.int .i64 mod, .int .i64 rm] (by simp [Act.eval, Act.put]) ((KD.out _).mono ?_); rintro e w' ⟨rfl, rfl⟩; refine ⟨_, rfl, ?_⟩) | (refine step_push0 rfl (.tmp 60) (.tmp 69) rfl (by with_reducible assumption) (by rfl) _ _ List.mem_cons_self d 2 hd2 rfl (by simp <;> omega) ?_; intro v' w1 HPN))
        all_goals
          go_wp2_with fail
          go_meet
          rw [← HQ2.out, ← List.append_assoc]
          exact HPN
  case rest =>
  have HP6 := Lib.hid hcut
  clear hcut HP4 ci cr
  have hl6 : (L3 ++ [op] ++ L4).length ≤ 8 := by simp; omega
  have hl61 : 1 ≤ (L3 ++ [op] ++ L4).length := by simp <;> omega
  generalize L3 ++ [op] ++ L4 = L6 at HP6 HL hl6 hl61
  clear HL4
  have ci := HP6.out.i.cell
  have cr := HP6.out.r.cell
  go_wp2_with fail
  refine (imms_any5 ⟨rn, ra, rb, rmod⟩ _).mono ?_
  generalize immsOf ⟨rn, ra, rb, rmod⟩ = n at HL ⊢
  rintro e w6' ⟨rfl, hb⟩; dsimp only
  have HP7 := Lib.hid (HP6.out.below hb)
  clear hb ci cr HP6
  have ci := HP7.out.i.cell
  have cr := HP7.out.r.cell
  have cn : n = 1 ∨ n = 2 ∨ n = 4 ∨ (n ≠ 1 ∧ n ≠ 2 ∧ n ≠ 4) := by omega
  rcases cn with rfl | rfl | rfl | ⟨n1, n2, n4⟩
  · have HE := Lib.hid (show putL ⟨lock, rep, seg, op, mod, reg, rm, disp, imm, sel⟩ = L6 ++ (twoL imm).take 1 from HL.out)
    clear HL
    as_aux_lemma => (go_wp2_with (first | (go_at_call 49; refine (two_any5 imm w5.1 w5.2 _).mono ?_; rintro e w' ⟨rfl, rfl⟩) | (at_builtin; go_loud (refine wpList_push rfl _ _ rfl rfl (HP7.out.alloc _) ⟨_, 0, none⟩ 1 2 ((twoL imm).take 1) rfl (by simp [twoL]) (fun j hj => two_at _ _ _ _ _ _ rfl rfl (by omega) hj) (by omega) ?_; intro v' w1 HPN))); obtain ⟨g, cap, hv, hg0, hg1, hc⟩ := HPN.done (by first | omega | (simp <;> omega)); subst hv; go_ret; rw [HE.out]; first | exact ⟨g, cap, rfl, HPN.b, hg0, hg1, hc⟩ | exact ⟨g, ⟨cap, rfl⟩, HPN.b, hg0, hg1, by simpa [List.getD_eq_getElem?_getD] using hc⟩)
  · have HE := Lib.hid (show putL ⟨lock, rep, seg, op, mod, reg, rm, disp, imm, sel⟩ = L6 ++ (twoL imm).take 2 from HL.out)
    clear HL
    as_aux_lemma => (go_wp2_with (first | (go_at_call 49; refine (two_any5 imm w5.1 w5.2 _).mono ?_; rintro e w' ⟨rfl, rfl⟩) | (at_builtin; go_loud (refine wpList_push rfl _ _ rfl rfl (HP7.out.alloc _) ⟨_, 0, none⟩ 2 2 ((twoL imm).take 2) rfl (by simp [twoL]) (fun j hj => two_at _ _ _ _ _ _ rfl rfl (by omega) hj) (by omega) ?_; intro v' w1 HPN))); obtain ⟨g, cap, hv, hg0, hg1, hc⟩ := HPN.done (by first | omega | (simp <;> omega)); subst hv; go_ret; rw [HE.out]; first | exact ⟨g, cap, rfl, HPN.b, hg0, hg1, hc⟩ | exact ⟨g, ⟨cap, rfl⟩, HPN.b, hg0, hg1, by simpa [List.getD_eq_getElem?_getD] using hc⟩)
  · have HE := Lib.hid (show putL ⟨lock, rep, seg, op, mod, reg, rm, disp, imm, sel⟩ = L6 ++ (twoL imm).take 2 ++ (twoL sel).take 2 by rw [List.append_assoc]; exact HL.out)
    clear HL
    have hS := HP7.out.drew.bare
    go_wp2_with fail
    go_region_law (first | (refine step_two rfl (.tmp 88) rfl (by with_reducible assumption) imm w5.1 w5.2 rfl ?_; intro gs w' hS; have ci := hS.p.i.cell) | (refine step_two rfl (.tmp 92) rfl (by with_reducible assumption) sel w6.1 w6.2 rfl ?_; intro gs w' hS; have ci := hS.p.i.cell) | (refine step_push3 rfl (.tmp 86) (.tmp 89) rfl (by with_reducible assumption) (by rfl) _ imm (by first | exact List.mem_cons_self | exact List.mem_cons_of_mem _ List.mem_cons_self) 2 rfl (by omega) (by omega) ?_; intro v' w1 hS; have ci := hS.p.i.cell) | (refine step_push0 rfl (.tmp 90) (.tmp 93) rfl (by with_reducible assumption) (by rfl) _ sel (by first | exact List.mem_cons_self | exact List.mem_cons_of_mem _ List.mem_cons_self) 2 2 (by omega) rfl (by simp [twoL] <;> omega) ?_; intro v' w1 HPN))
    all_goals
      go_wp2_with fail
      obtain ⟨g, cap, hv, hg0, hg1, hc⟩ := HPN.done (by first | omega | (simp <;> omega)); subst hv; go_ret; rw [HE.out]; first | exact ⟨g, cap, rfl, HPN.b, hg0, hg1, hc⟩ | exact ⟨g, ⟨cap, rfl⟩, HPN.b, hg0, hg1, by simpa [List.getD_eq_getElem?_getD] using hc⟩
  · have k1 : (n == 1) = false := by simpa using n1
    have k2 : (n == 2) = false := by simpa using n2
    have k4 : (n == 4) = false := by simpa using n4
    have HE := Lib.hid (show putL ⟨lock, rep, seg, op, mod, reg, rm, disp, imm, sel⟩ = L6 by rw [HL.out, immL, if_neg n1, if_neg n2, if_neg n4, List.append_nil])
    have HPN := HP7.out
    clear HL n1 n2 n4
    as_aux_lemma => (go_wp2_with fail; obtain ⟨g, cap, hv, hg0, hg1, hc⟩ := HPN.done (by first | omega | (simp <;> omega)); subst hv; go_ret; rw [HE.out]; first | exact ⟨g, cap, rfl, HPN.b, hg0, hg1, hc⟩ | exact ⟨g, ⟨cap, rfl⟩, HPN.b, hg0, hg1, by simpa [List.getD_eq_getElem?_getD] using hc⟩)
end Go.Proofs.YtcglkefaopgjeaaGreatDoor
