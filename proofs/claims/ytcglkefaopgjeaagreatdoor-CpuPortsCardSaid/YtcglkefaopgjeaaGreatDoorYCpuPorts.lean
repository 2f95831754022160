/- CpuPorts: the law's steps, its walk, its row, in one text: each part's own remark says what it proves; conditions: hansom/addr.bases holds its own text. -/
import Derived.Test.YtcglkefaopgjeaaGreatDoorW10
import Derived.Test.YtcglkefaopgjeaaGreatDoorW11
import Derived.Test.YtcglkefaopgjeaaGreatDoorW12

/- The steps of CpuPorts: plain laws, no walk. -/
namespace Go.Proofs.YtcglkefaopgjeaaGreatDoor
set_option linter.unusedSimpArgs false
set_option linter.unusedVariables false
open Go.RowKit

theorem and_low (n : Int) (k c : Nat) (hk : n % 8 = (k : Int)) (hc : c < 8) : bits .and .i64 n (c : Int) = ((k &&& c : Nat) : Int) := by
  have hm : (BitVec.ofInt 64 (c : Int)).toNat = c := by
    rw [BitVec.toNat_ofInt]
    omega
  have h7 : (7 : Nat) &&& c = c := by
    have : c = 0 ∨ c = 1 ∨ c = 2 ∨ c = 3 ∨ c = 4 ∨ c = 5 ∨ c = 6 ∨ c = 7 := by omega
    rcases this with rfl | rfl | rfl | rfl | rfl | rfl | rfl | rfl <;> rfl
  have h8 : (n % ((2 ^ 64 : Nat) : Int)).toNat % 2 ^ 3 = k := by omega
  have key : (BitVec.ofInt 64 n &&& BitVec.ofInt 64 (c : Int)).toNat = k &&& c := by
    rw [BitVec.toNat_and, BitVec.toNat_ofInt, hm]
    rw [← h7, ← Nat.and_assoc, show (7 : Nat) = 2 ^ 3 - 1 from rfl, Nat.and_two_pow_sub_one_eq_mod, h8]
    rw [show (2 : Nat) ^ 3 - 1 = 7 from rfl, h7]
  have hb : k &&& c ≤ c := Nat.and_le_right
  show IntKind.i64.wrap ((BitVec.ofInt 64 n &&& BitVec.ofInt 64 (c : Int)).toNat : Nat) = _
  rw [key, IntKind.wrap_i64]
  omega
/-- One with a byte behind it. -/
theorem step_byte {C : Phys} {m m' : Mach} (hs : Sane m) (op : Int) (h0 : 0 ≤ op) (h1 : op ≤ 255) (hc : m.code 0 = op) (x : Int) (hx : m.code 1 = x) (x0 : 0 ≤ x) (x1 : x ≤ 255) (r : IRow) (hp : isPre op = false) (h2 : twoOf op = false) (hr : isaOf op 0 = some r) (h4 : immsOf r = 1) (h6 : ¬ (r.a = 9 ∨ r.b = 8))
    (hm : mayB { opI op false 0 0 with imm := x } = true) (hrep : repsOf r.name = 0) (hfl : isFlow r.name = false)
    (hdo : ∀ (w : World) (lv : Value), Own w C lv (m.on 2) → Calls Tryz.prog 75 #[.pointer (some ⟨C.b, 0, none⟩), Inst.val { opI op false 0 0 with imm := x }, r.val, V.val ⟨x, false⟩] w fun e w' => e = .returned (.tuple #[]) ∧ After C lv w m' w') : StepOk C m m' := by
  intro w lv h
  have ht := take_byte m.code op hc r hp h2 hr h4 h6 (by rw [hx]; exact hm)
  rw [hx] at ht
  exact step_any w C lv m m' h hs.state { opI op false 0 0 with imm := x } 2 ht (plainB_sane hs _ _) (by decide) r (by rw [instRow, hp]; exact hr) (opI_wf op h0 h1 x x0 (by omega)) hrep hfl hdo

abbrev bI (op x : Int) : Inst := { opI op false 0 0 with imm := x }
/-- What the machine of CpuPorts is behind its step. -/
def pm (r : Regs) (p : Int) : Nat → Mach
  | 0 => ((begun r [228, p]).on 2).doIn (bI 228 p) ⟨78, 14, 6, false⟩ ⟨p, false⟩
  | 1 => ((begun r [229, p]).on 2).doIn (bI 229 p) ⟨78, 16, 6, false⟩ ⟨p, false⟩
  | 2 => ((begun r [230, p]).on 2).doOut (bI 230 p) ⟨79, 6, 14, false⟩ ⟨p, false⟩
  | 3 => ((begun r [231, p]).on 2).doOut (bI 231 p) ⟨79, 6, 16, false⟩ ⟨p, false⟩
  | 4 => ((begun r [236, p]).on 1).doIn (opI 236 false 0 0) ⟨78, 14, 17, false⟩ ⟨0, false⟩
  | 5 => ((begun r [237, p]).on 1).doIn (opI 237 false 0 0) ⟨78, 16, 17, false⟩ ⟨0, false⟩
  | 6 => ((begun r [238, p]).on 1).doOut (opI 238 false 0 0) ⟨79, 17, 14, false⟩ ⟨0, false⟩
  | _ => ((begun r [239, p]).on 1).doOut (opI 239 false 0 0) ⟨79, 17, 16, false⟩ ⟨0, false⟩
theorem pm_says (r : Regs) (p : Int) :
    ((pm r p 0).ev = [⟨1, p, 77, 0, 0, 0, 0⟩] ∧ (pm r p 0).r.g0.v = 77 + 256 * (r.g0.v / 256) ∧ (pm r p 0).state = 0) ∧
    ((pm r p 1).ev = [⟨1, p, 77, 0, 0, 0, 0⟩] ∧ (pm r p 1).r.g0.v = 77 ∧ (pm r p 1).state = 0) ∧
    ((pm r p 2).ev = [⟨2, p, r.g0.v % 256, 0, 0, 0, 0⟩] ∧ (pm r p 2).r.g0.v = r.g0.v ∧ (pm r p 2).state = 0) ∧
    ((pm r p 3).ev = [⟨2, p, r.g0.v, 0, 0, 0, 0⟩] ∧ (pm r p 3).r.g0.v = r.g0.v ∧ (pm r p 3).state = 0) ∧
    ((pm r p 4).ev = [⟨1, r.g2.v, 77, 0, 0, 0, 0⟩] ∧ (pm r p 4).r.g0.v = 77 + 256 * (r.g0.v / 256) ∧ (pm r p 4).state = 0) ∧
    ((pm r p 5).ev = [⟨1, r.g2.v, 77, 0, 0, 0, 0⟩] ∧ (pm r p 5).r.g0.v = 77 ∧ (pm r p 5).state = 0) ∧
    ((pm r p 6).ev = [⟨2, r.g2.v, r.g0.v % 256, 0, 0, 0, 0⟩] ∧ (pm r p 6).r.g0.v = r.g0.v ∧ (pm r p 6).state = 0) ∧
    ((pm r p 7).ev = [⟨2, r.g2.v, r.g0.v, 0, 0, 0, 0⟩] ∧ (pm r p 7).r.g0.v = r.g0.v ∧ (pm r p 7).state = 0) :=
  ⟨⟨rfl, rfl, rfl⟩, ⟨rfl, rfl, rfl⟩, ⟨rfl, rfl, rfl⟩, ⟨rfl, rfl, rfl⟩, ⟨rfl, rfl, rfl⟩, ⟨rfl, rfl, rfl⟩, ⟨rfl, rfl, rfl⟩, ⟨rfl, rfl, rfl⟩⟩
theorem begun_rs (r : Regs) (bs : List Int) : ∀ (m' : Mach), m'.rs = (begun r bs).rs → ∀ j, 0 ≤ nextV m'.rs j ∧ nextV m'.rs j ≤ 65535 := by
  intro m' h j
  rw [h]
  show 0 ≤ nextV [77, 300] j ∧ nextV [77, 300] j ≤ 65535
  unfold nextV
  split
  · rename_i h
    have : j = 0 ∨ j = 1 := by simp at h; omega
    rcases this with rfl | rfl <;> decide
  · decide
theorem gk (op x : Int) (h0 : 0 ≤ op) (h1 : op ≤ 255) (a : Int) (ho : (1 ≤ a ∧ a ≤ 8) ∨ (14 ≤ a ∧ a ≤ 18) ∨ (21 ≤ a ∧ a ≤ 24)) (ha : ¬ a ≤ 2) : GetOk (bI op x) a := getOk_bare _ h0 h1 a ho (fun h => absurd h ha)
theorem pk (op x : Int) (h0 : 0 ≤ op) (h1 : op ≤ 255) (a : Int) (ho : (1 ≤ a ∧ a ≤ 5) ∨ a = 14 ∨ a = 16 ∨ (21 ≤ a ∧ a ≤ 23)) (ha : ¬ a ≤ 2) : PutOk (bI op x) a := putOk_bare _ h0 h1 a ho (fun h => absurd h ha)
theorem may_in0 (p : Int) (h : p < 256) : mayB (bI 228 p) = true := by
  unfold mayB
  rw [show instRow (bI 228 p).op (bI 228 p).reg = some ⟨78, 14, 6, false⟩ from rfl]
  simp [secondB, behindB, tailB, prefixesB, h]
theorem may_in1 (p : Int) (h : p < 256) : mayB (bI 229 p) = true := by
  unfold mayB
  rw [show instRow (bI 229 p).op (bI 229 p).reg = some ⟨78, 16, 6, false⟩ from rfl]
  simp [secondB, behindB, tailB, prefixesB, h]
theorem may_out2 (p : Int) (h : p < 256) : mayB (bI 230 p) = true := by
  unfold mayB
  rw [show instRow (bI 230 p).op (bI 230 p).reg = some ⟨79, 6, 14, false⟩ from rfl]
  simp [secondB, behindB, tailB, prefixesB, h]
theorem may_out3 (p : Int) (h : p < 256) : mayB (bI 231 p) = true := by
  unfold mayB
  rw [show instRow (bI 231 p).op (bI 231 p).reg = some ⟨79, 6, 16, false⟩ from rfl]
  simp [secondB, behindB, tailB, prefixesB, h]
theorem pm_step0 {r : Regs} (hr : r.wf) (C : Phys) (p : Int) (p0 : 0 ≤ p) (p1 : p ≤ 255) : StepOk C (begun r [228, p]) (pm r p 0) := by
  have c := fun k hk => code_begun r hr.ip.1 hr.ip.2 [228, p] k hk
  refine step_byte (sane_begun _ _) 228 (by decide) (by decide) (c 0 (by decide)) p (c 1 (by decide)) p0 p1 ⟨78, 14, 6, false⟩ (by decide) (by decide) rfl rfl (by decide) (may_in0 p (by omega)) (by decide) (by decide) ?_
  intro w lv h
  refine do_port w C lv _ _ h _ ⟨78, 14, 6, false⟩ ⟨p, false⟩ (by decide) ?_
  intro w lv h
  exact port_in w C lv _ h (bI 228 p) ⟨78, 14, 6, false⟩ ⟨p, false⟩ ⟨p0, by show p ≤ 65535; omega⟩ rfl (by decide) (by decide) (gk _ _ (by decide) (by decide) 6 (by decide) (by decide)) (pk _ _ (by decide) (by decide) 14 (by decide) (by decide)) (begun_rs r [228, p]) rfl
theorem pm_step1 {r : Regs} (hr : r.wf) (C : Phys) (p : Int) (p0 : 0 ≤ p) (p1 : p ≤ 255) : StepOk C (begun r [229, p]) (pm r p 1) := by
  have c := fun k hk => code_begun r hr.ip.1 hr.ip.2 [229, p] k hk
  refine step_byte (sane_begun _ _) 229 (by decide) (by decide) (c 0 (by decide)) p (c 1 (by decide)) p0 p1 ⟨78, 16, 6, false⟩ (by decide) (by decide) rfl rfl (by decide) (may_in1 p (by omega)) (by decide) (by decide) ?_
  intro w lv h
  refine do_port w C lv _ _ h _ ⟨78, 16, 6, false⟩ ⟨p, false⟩ (by decide) ?_
  intro w lv h
  exact port_in w C lv _ h (bI 229 p) ⟨78, 16, 6, false⟩ ⟨p, false⟩ ⟨p0, by show p ≤ 65535; omega⟩ rfl (by decide) (by decide) (gk _ _ (by decide) (by decide) 6 (by decide) (by decide)) (pk _ _ (by decide) (by decide) 16 (by decide) (by decide)) (begun_rs r [229, p]) rfl
theorem pm_step2 {r : Regs} (hr : r.wf) (C : Phys) (p : Int) (p0 : 0 ≤ p) (p1 : p ≤ 255) : StepOk C (begun r [230, p]) (pm r p 2) := by
  have c := fun k hk => code_begun r hr.ip.1 hr.ip.2 [230, p] k hk
  refine step_byte (sane_begun _ _) 230 (by decide) (by decide) (c 0 (by decide)) p (c 1 (by decide)) p0 p1 ⟨79, 6, 14, false⟩ (by decide) (by decide) rfl rfl (by decide) (may_out2 p (by omega)) (by decide) (by decide) ?_
  intro w lv h
  refine do_port w C lv _ _ h _ ⟨79, 6, 14, false⟩ ⟨p, false⟩ (by decide) ?_
  intro w lv h
  exact port_out w C lv _ h (bI 230 p) ⟨79, 6, 14, false⟩ ⟨p, false⟩ rfl (gk _ _ (by decide) (by decide) 6 (by decide) (by decide)) (gk _ _ (by decide) (by decide) 14 (by decide) (by decide))
theorem pm_step3 {r : Regs} (hr : r.wf) (C : Phys) (p : Int) (p0 : 0 ≤ p) (p1 : p ≤ 255) : StepOk C (begun r [231, p]) (pm r p 3) := by
  have c := fun k hk => code_begun r hr.ip.1 hr.ip.2 [231, p] k hk
  refine step_byte (sane_begun _ _) 231 (by decide) (by decide) (c 0 (by decide)) p (c 1 (by decide)) p0 p1 ⟨79, 6, 16, false⟩ (by decide) (by decide) rfl rfl (by decide) (may_out3 p (by omega)) (by decide) (by decide) ?_
  intro w lv h
  refine do_port w C lv _ _ h _ ⟨79, 6, 16, false⟩ ⟨p, false⟩ (by decide) ?_
  intro w lv h
  exact port_out w C lv _ h (bI 231 p) ⟨79, 6, 16, false⟩ ⟨p, false⟩ rfl (gk _ _ (by decide) (by decide) 6 (by decide) (by decide)) (gk _ _ (by decide) (by decide) 16 (by decide) (by decide))
theorem pm_step4 {r : Regs} (hr : r.wf) (C : Phys) (p : Int) (p0 : 0 ≤ p) (p1 : p ≤ 255) : StepOk C (begun r [236, p]) (pm r p 4) := by
  have c := fun k hk => code_begun r hr.ip.1 hr.ip.2 [236, p] k hk
  refine step_alone (sane_begun _ _) 236 (by decide) (by decide) (c 0 (by decide)) (by decide) ⟨78, 14, 17, false⟩ rfl (by decide) (by decide) ?_
  intro w lv h
  refine do_port w C lv _ _ h _ ⟨78, 14, 17, false⟩ ⟨0, false⟩ (by decide) ?_
  intro w lv h
  exact port_in w C lv _ h (opI 236 false 0 0) ⟨78, 14, 17, false⟩ ⟨0, false⟩ ⟨by decide, by decide⟩ rfl (by decide) (by decide) (gk _ _ (by decide) (by decide) 17 (by decide) (by decide)) (pk _ _ (by decide) (by decide) 14 (by decide) (by decide)) (begun_rs r [236, p]) rfl
theorem pm_step5 {r : Regs} (hr : r.wf) (C : Phys) (p : Int) (p0 : 0 ≤ p) (p1 : p ≤ 255) : StepOk C (begun r [237, p]) (pm r p 5) := by
  have c := fun k hk => code_begun r hr.ip.1 hr.ip.2 [237, p] k hk
  refine step_alone (sane_begun _ _) 237 (by decide) (by decide) (c 0 (by decide)) (by decide) ⟨78, 16, 17, false⟩ rfl (by decide) (by decide) ?_
  intro w lv h
  refine do_port w C lv _ _ h _ ⟨78, 16, 17, false⟩ ⟨0, false⟩ (by decide) ?_
  intro w lv h
  exact port_in w C lv _ h (opI 237 false 0 0) ⟨78, 16, 17, false⟩ ⟨0, false⟩ ⟨by decide, by decide⟩ rfl (by decide) (by decide) (gk _ _ (by decide) (by decide) 17 (by decide) (by decide)) (pk _ _ (by decide) (by decide) 16 (by decide) (by decide)) (begun_rs r [237, p]) rfl
theorem pm_step6 {r : Regs} (hr : r.wf) (C : Phys) (p : Int) (p0 : 0 ≤ p) (p1 : p ≤ 255) : StepOk C (begun r [238, p]) (pm r p 6) := by
  have c := fun k hk => code_begun r hr.ip.1 hr.ip.2 [238, p] k hk
  refine step_alone (sane_begun _ _) 238 (by decide) (by decide) (c 0 (by decide)) (by decide) ⟨79, 17, 14, false⟩ rfl (by decide) (by decide) ?_
  intro w lv h
  refine do_port w C lv _ _ h _ ⟨79, 17, 14, false⟩ ⟨0, false⟩ (by decide) ?_
  intro w lv h
  exact port_out w C lv _ h (opI 238 false 0 0) ⟨79, 17, 14, false⟩ ⟨0, false⟩ rfl (gk _ _ (by decide) (by decide) 17 (by decide) (by decide)) (gk _ _ (by decide) (by decide) 14 (by decide) (by decide))
theorem pm_step7 {r : Regs} (hr : r.wf) (C : Phys) (p : Int) (p0 : 0 ≤ p) (p1 : p ≤ 255) : StepOk C (begun r [239, p]) (pm r p 7) := by
  have c := fun k hk => code_begun r hr.ip.1 hr.ip.2 [239, p] k hk
  refine step_alone (sane_begun _ _) 239 (by decide) (by decide) (c 0 (by decide)) (by decide) ⟨79, 17, 16, false⟩ rfl (by decide) (by decide) ?_
  intro w lv h
  refine do_port w C lv _ _ h _ ⟨79, 17, 16, false⟩ ⟨0, false⟩ (by decide) ?_
  intro w lv h
  exact port_out w C lv _ h (opI 239 false 0 0) ⟨79, 17, 16, false⟩ ⟨0, false⟩ rfl (gk _ _ (by decide) (by decide) 17 (by decide) (by decide)) (gk _ _ (by decide) (by decide) 16 (by decide) (by decide))
end Go.Proofs.YtcglkefaopgjeaaGreatDoor

/- The law CpuPorts. -/
namespace Go.Proofs.YtcglkefaopgjeaaGreatDoor
set_option linter.unusedSimpArgs false
set_option linter.unusedVariables false
open Go.RowKit

/-- An event equals itself. -/
theorem eq_ev (a b c d e f g : Int) (w : World) : (Op.equalIn 10000 67 (.agg #[.int .i64 a, .int .u16 b, .int .u16 c, .int .u16 d, .int .u16 e, .int .u16 f, .int .u16 g]) (.agg #[.int .i64 a, .int .u16 b, .int .u16 c, .int .u16 d, .int .u16 e, .int .u16 f, .int .u16 g])).run Tryz.prog w = .ok true w := by
  have hS : Tryz.prog.underlying 67 = some (.struct (Tryz.prog.fieldsOf 67)) := by kernel_rfl
  rw [show (10000 : Nat) = 9999 + 1 from rfl, run_equalIn_agg w 9999 67 _ _ hS (by kernel_rfl)]
  simp only [Program.fieldsOf, Tryz.underlying67]
  go_simp
theorem ev_cells {w : World} {base g n cap : Nat} {e : Ev} (h : w.ownsRow base 67 7 (.slice (some ⟨g, 0, none⟩) n cap) [e].length (evCells [e])) (j : Nat) (u : Value) (hj : e.cells[j]? = some u) : w.cell? ⟨g, j, none⟩ = some u := by
  have := h.cells (g := g) rfl j u (by simpa [evCells] using hj)
  have e : (⟨g, 0, none⟩ : Addr).add j = ⟨g, j, none⟩ := by unfold Addr.add; split <;> simp_all
  rwa [e] at this

set_option maxRecDepth 100000 in
set_option maxHeartbeats 6400000 in
theorem cpuPorts_0 (r : Regs) (hr : r.wf) (p how : Int) (p0 : 0 ≤ p) (p1 : p ≤ 255) (hk : how % 8 = ((0 : Nat) : Int)) (w : World) :
    Calls Tryz.prog 8 #[r.val, .int .u8 p, .int .i64 how] w fun e w' => e = .returned (.bool true) ∧ Below w.heap.size w w' := by
  have m7 : bits .and .i64 how 7 = 0 := and_low how 0 7 hk (by decide)
  have m4 : bits .and .i64 how 4 = 0 := and_low how 0 4 hk (by decide)
  have m2 : bits .and .i64 how 2 = 0 := and_low how 0 2 hk (by decide)
  have m1 : bits .and .i64 how 1 = 0 := and_low how 0 1 hk (by decide)
  have ax0 := hr.g0.1
  have ax1 := hr.g0.2
  clear hk
  go_enter Tryz.func8, Tryz.ntmps8
  go_wp2_with fail
  have hrow := Row.new ((w.alloc (.cells r.cells 28)).alloc (.cells #[.int .u8 228, .int .u8 229, .int .u8 230, .int .u8 231, .int .u8 236, .int .u8 237, .int .u8 238, .int .u8 239] 5)) #[.int .u8 228, .int .u8 p] 5
  have hcell : ∀ k, k < [(228 : Int), p].length → (((w.alloc (.cells r.cells 28)).alloc (.cells #[.int .u8 228, .int .u8 229, .int .u8 230, .int .u8 231, .int .u8 236, .int .u8 237, .int .u8 238, .int .u8 239] 5)).alloc (.cells #[.int .u8 228, .int .u8 p] 5)).cell? ⟨w.heap.size + 1 + 1, k, none⟩ = some (.int .u8 ([(228 : Int), p].getD k 0)) := by
    intro k hk
    have := hrow.cell k
    simp only [World.size_alloc] at this
    rw [this]
    match k, hk with
    | 0, _ | 1, _ => rfl
    | k + 2, h => simp at h; omega
  have hlt : w.heap.size + 1 + 1 < (((w.alloc (.cells r.cells 28)).alloc (.cells #[.int .u8 228, .int .u8 229, .int .u8 230, .int .u8 231, .int .u8 236, .int .u8 237, .int .u8 238, .int .u8 239] 5)).alloc (.cells #[.int .u8 228, .int .u8 p] 5)).heap.size := by
    simp
  have hbw : Below w.heap.size w (((w.alloc (.cells r.cells 28)).alloc (.cells #[.int .u8 228, .int .u8 229, .int .u8 230, .int .u8 231, .int .u8 236, .int .u8 237, .int .u8 238, .int .u8 239] 5)).alloc (.cells #[.int .u8 228, .int .u8 p] 5)) :=
    (((Below.refl w.heap.size w).alloc (Nat.le_refl _) _).alloc (by simp) _).alloc (by simp; omega) _
  have bwf : ∀ k, 0 ≤ [(228 : Int), p].getD k 0 ∧ [(228 : Int), p].getD k 0 ≤ 255 := by
    intro k
    match k with
    | 0 => exact ⟨by show (0 : Int) ≤ 228; decide, by show (228 : Int) ≤ 255; decide⟩
    | 1 => exact ⟨p0, p1⟩
    | k + 2 => simp
  refine (begin_any _ r hr (w.heap.size + 1 + 1) 2 [228, p] hlt hcell bwf (by simp)).mono ?_
  clear hcell hlt hrow bwf
  generalize (((w.alloc (.cells r.cells 28)).alloc (.cells #[.int .u8 228, .int .u8 229, .int .u8 230, .int .u8 231, .int .u8 236, .int .u8 237, .int .u8 238, .int .u8 239] 5)).alloc (.cells #[.int .u8 228, .int .u8 p] 5)) = W0 at hbw ⊢
  rintro e w1 ⟨C, lv, rfl, ho, hb1, hn⟩; dsimp only
  have HO1 := Lib.hid ho
  have HB1 := Lib.hid (hbw.trans (hb1.mono hbw.size))
  have HN := Lib.hid (fun k (hk : k < w.heap.size) => hn k (Nat.lt_of_lt_of_le hk hbw.size))
  clear ho hb1 hn hbw
  have c0 : w1.cell? ⟨C.b, 0, none⟩ = some (.int .u16 r.g0.v) := (HO1.out.row.cell 0).trans rfl
  have c4 : w1.cell? ⟨C.b, 4, none⟩ = some (.int .u16 r.g2.v) := (HO1.out.row.cell 4).trans rfl
  go_wp2_with fail
  refine (pm_step0 hr C p p0 p1 _ _ HO1.out).mono ?_
  rintro e w2 ⟨rfl, lv2, h2, f2, k2⟩; dsimp only
  have HP := Lib.hid ((pm_says r p).1)
  generalize pm r p 0 = mm at h2 HP
  have HO2 := Lib.hid h2
  have HA2 := Lib.hid (show Acc C lv w1 lv2 w2 from ⟨f2, k2⟩)
  have HB2 := Lib.hid (below_step HB1.out f2 HN.out)
  clear h2 f2 k2 c0 c4
  have c27 : w2.cell? ⟨C.b, 27, none⟩ = some (.pointer (some ⟨C.wb, 0, none⟩)) := (HO2.out.row.cell 27).trans (mcell27 C _)
  go_wp2_with fail
  have hw := HO2.out.wor
  rw [HP.out.1] at hw
  refine (events_any _ _ _ _ _ hw).mono ?_
  rintro e w3 ⟨v3, rfl, hq, hb3⟩; dsimp only
  have HO3 := Lib.hid (HO2.out.below hb3)
  have HB3 := Lib.hid (HB2.out.trans (hb3.mono HB2.out.size))
  have HQ := Lib.hid hq
  have hv3 : ∃ g cap, v3 = .slice (some ⟨g, 0, none⟩) 1 cap := by
    rcases hq.2 with ⟨_, h0⟩ | ⟨g, cap, _, hv, _⟩
    · cases h0
    · exact ⟨g, cap, hv⟩
  clear c27 hw hq hb3
  obtain ⟨g3, cap3, rfl⟩ := hv3
  go_upto_region 16 with fail
  have hquo : IntKind.u16.wrap (IntKind.u16.wrap (IntKind.u16.wrap (r.g0.v.tdiv 256) * 256) + 77) = 77 + 256 * (r.g0.v / 256) := by
    rw [Int.tdiv_eq_ediv_of_nonneg ax0]
    simp only [IntKind.wrap_u16]
    omega
  have hrem : IntKind.u16.wrap (r.g0.v.tmod 256) = r.g0.v % 256 := by
    rw [Int.tmod_eq_emod_of_nonneg ax0]
    simp only [IntKind.wrap_u16]
    omega
  (try simp only [hquo, hrem])
  clear hquo hrem
  have HO4 := HO3.out.alloc (.cells #[.int .i64 1, .int .u16 p, .int .u16 (77), .int .u16 0, .int .u16 0, .int .u16 0, .int .u16 0] 67)
  have hb4 := (Below.refl w3.heap.size w3).alloc (Nat.le_refl _) (.cells #[.int .i64 1, .int .u16 p, .int .u16 (77), .int .u16 0, .int .u16 0, .int .u16 0, .int .u16 0] 67)
  have HB4 := Lib.hid (HB3.out.trans (hb4.mono HB3.out.size))
  have hrow := Row.new w3 #[.int .i64 1, .int .u16 p, .int .u16 (77), .int .u16 0, .int .u16 0, .int .u16 0, .int .u16 0] 67
  have b0 := (hrow.cell 0).trans (show _ = some (Value.int .i64 (1)) from rfl)
  have e00 := ev_cells HQ.out 0 (Value.int .i64 (1)) rfl
  have e0 := (hb4.cell (World.block_lt_of_cell? _ _ e00)).trans e00
  have b1 := (hrow.cell 1).trans (show _ = some (Value.int .u16 (p)) from rfl)
  have e10 := ev_cells HQ.out 1 (Value.int .u16 (p)) rfl
  have e1 := (hb4.cell (World.block_lt_of_cell? _ _ e10)).trans e10
  have b2 := (hrow.cell 2).trans (show _ = some (Value.int .u16 (77)) from rfl)
  have e20 := ev_cells HQ.out 2 (Value.int .u16 (77)) rfl
  have e2 := (hb4.cell (World.block_lt_of_cell? _ _ e20)).trans e20
  have b3 := (hrow.cell 3).trans (show _ = some (Value.int .u16 (0)) from rfl)
  have e30 := ev_cells HQ.out 3 (Value.int .u16 (0)) rfl
  have e3 := (hb4.cell (World.block_lt_of_cell? _ _ e30)).trans e30
  have b4 := (hrow.cell 4).trans (show _ = some (Value.int .u16 (0)) from rfl)
  have e40 := ev_cells HQ.out 4 (Value.int .u16 (0)) rfl
  have e4 := (hb4.cell (World.block_lt_of_cell? _ _ e40)).trans e40
  have b5 := (hrow.cell 5).trans (show _ = some (Value.int .u16 (0)) from rfl)
  have e50 := ev_cells HQ.out 5 (Value.int .u16 (0)) rfl
  have e5 := (hb4.cell (World.block_lt_of_cell? _ _ e50)).trans e50
  have b6 := (hrow.cell 6).trans (show _ = some (Value.int .u16 (0)) from rfl)
  have e60 := ev_cells HQ.out 6 (Value.int .u16 (0)) rfl
  have e6 := (hb4.cell (World.block_lt_of_cell? _ _ e60)).trans e60
  have ca := (HO4.row.cell 0).trans (show _ = some (Value.int .u16 mm.r.g0.v) from rfl)
  rw [HP.out.2.1] at ca
  have eqe := eq_ev 1 p (77) 0 0 0 0
  clear e00 e10 e20 e30 e40 e50 e60 hrow hb4
  generalize w3.alloc (.cells #[.int .i64 1, .int .u16 p, .int .u16 (77), .int .u16 0, .int .u16 0, .int .u16 0, .int .u16 0] 67) = w4 at HO4 HB4 ca b0 b1 b2 b3 b4 b5 b6 e0 e1 e2 e3 e4 e5 e6 ⊢
  refine range_of (w4) ?_; intro S inst ω hin hout
  have rb0 := range_cell hin b0
  have re0 := range_cell hin e0
  have rb1 := range_cell hin b1
  have re1 := range_cell hin e1
  have rb2 := range_cell hin b2
  have re2 := range_cell hin e2
  have rb3 := range_cell hin b3
  have re3 := range_cell hin e3
  have rb4 := range_cell hin b4
  have re4 := range_cell hin e4
  have rb5 := range_cell hin b5
  have re5 := range_cell hin e5
  have rb6 := range_cell hin b6
  have re6 := range_cell hin e6
  have rc := range_cell hin ca
  have k1 := range_call hin hout awake_any
  have k2 := range_calls hin hout (fun w hw => (state_any w C lv2 _ (HO4.below hw)).mono (by rintro e w' ⟨rfl, rfl⟩; exact ⟨rfl, Below.refl _ _⟩))
  rw [HP.out.2.2] at k2
  clear b0 b1 b2 b3 b4 b5 b6 e0 e1 e2 e3 e4 e5 e6 ca HO4
  refine wp_region_range_lit ω (by kernel_rfl) (by kernel_rfl) (hout _ (Below.refl _ _).drew) ?_
  repeat (go_big_quiet_step (first | (with_reducible exact k1 _) | (with_reducible exact k2 _)))
  refine wpQuiet_nil ?_; intro _ hw'; obtain ⟨nq, rfl⟩ := hw'
  go_wp2_with fail
  go_ret
  exact ⟨rfl, HB4.out.trans ((hin nq).mono HB4.out.size)⟩

set_option maxRecDepth 100000 in
set_option maxHeartbeats 6400000 in
theorem cpuPorts_1 (r : Regs) (hr : r.wf) (p how : Int) (p0 : 0 ≤ p) (p1 : p ≤ 255) (hk : how % 8 = ((1 : Nat) : Int)) (w : World) :
    Calls Tryz.prog 8 #[r.val, .int .u8 p, .int .i64 how] w fun e w' => e = .returned (.bool true) ∧ Below w.heap.size w w' := by
  have m7 : bits .and .i64 how 7 = 1 := and_low how 1 7 hk (by decide)
  have m4 : bits .and .i64 how 4 = 0 := and_low how 1 4 hk (by decide)
  have m2 : bits .and .i64 how 2 = 0 := and_low how 1 2 hk (by decide)
  have m1 : bits .and .i64 how 1 = 1 := and_low how 1 1 hk (by decide)
  have ax0 := hr.g0.1
  have ax1 := hr.g0.2
  clear hk
  go_enter Tryz.func8, Tryz.ntmps8
  go_wp2_with fail
  have hrow := Row.new ((w.alloc (.cells r.cells 28)).alloc (.cells #[.int .u8 228, .int .u8 229, .int .u8 230, .int .u8 231, .int .u8 236, .int .u8 237, .int .u8 238, .int .u8 239] 5)) #[.int .u8 229, .int .u8 p] 5
  have hcell : ∀ k, k < [(229 : Int), p].length → (((w.alloc (.cells r.cells 28)).alloc (.cells #[.int .u8 228, .int .u8 229, .int .u8 230, .int .u8 231, .int .u8 236, .int .u8 237, .int .u8 238, .int .u8 239] 5)).alloc (.cells #[.int .u8 229, .int .u8 p] 5)).cell? ⟨w.heap.size + 1 + 1, k, none⟩ = some (.int .u8 ([(229 : Int), p].getD k 0)) := by
    intro k hk
    have := hrow.cell k
    simp only [World.size_alloc] at this
    rw [this]
    match k, hk with
    | 0, _ | 1, _ => rfl
    | k + 2, h => simp at h; omega
  have hlt : w.heap.size + 1 + 1 < (((w.alloc (.cells r.cells 28)).alloc (.cells #[.int .u8 228, .int .u8 229, .int .u8 230, .int .u8 231, .int .u8 236, .int .u8 237, .int .u8 238, .int .u8 239] 5)).alloc (.cells #[.int .u8 229, .int .u8 p] 5)).heap.size := by
    simp
  have hbw : Below w.heap.size w (((w.alloc (.cells r.cells 28)).alloc (.cells #[.int .u8 228, .int .u8 229, .int .u8 230, .int .u8 231, .int .u8 236, .int .u8 237, .int .u8 238, .int .u8 239] 5)).alloc (.cells #[.int .u8 229, .int .u8 p] 5)) :=
    (((Below.refl w.heap.size w).alloc (Nat.le_refl _) _).alloc (by simp) _).alloc (by simp; omega) _
  have bwf : ∀ k, 0 ≤ [(229 : Int), p].getD k 0 ∧ [(229 : Int), p].getD k 0 ≤ 255 := by
    intro k
    match k with
    | 0 => exact ⟨by show (0 : Int) ≤ 229; decide, by show (229 : Int) ≤ 255; decide⟩
    | 1 => exact ⟨p0, p1⟩
    | k + 2 => simp
  refine (begin_any _ r hr (w.heap.size + 1 + 1) 2 [229, p] hlt hcell bwf (by simp)).mono ?_
  clear hcell hlt hrow bwf
  generalize (((w.alloc (.cells r.cells 28)).alloc (.cells #[.int .u8 228, .int .u8 229, .int .u8 230, .int .u8 231, .int .u8 236, .int .u8 237, .int .u8 238, .int .u8 239] 5)).alloc (.cells #[.int .u8 229, .int .u8 p] 5)) = W0 at hbw ⊢
  rintro e w1 ⟨C, lv, rfl, ho, hb1, hn⟩; dsimp only
  have HO1 := Lib.hid ho
  have HB1 := Lib.hid (hbw.trans (hb1.mono hbw.size))
  have HN := Lib.hid (fun k (hk : k < w.heap.size) => hn k (Nat.lt_of_lt_of_le hk hbw.size))
  clear ho hb1 hn hbw
  have c0 : w1.cell? ⟨C.b, 0, none⟩ = some (.int .u16 r.g0.v) := (HO1.out.row.cell 0).trans rfl
  have c4 : w1.cell? ⟨C.b, 4, none⟩ = some (.int .u16 r.g2.v) := (HO1.out.row.cell 4).trans rfl
  go_wp2_with fail
  refine (pm_step1 hr C p p0 p1 _ _ HO1.out).mono ?_
  rintro e w2 ⟨rfl, lv2, h2, f2, k2⟩; dsimp only
  have HP := Lib.hid ((pm_says r p).2.1)
  generalize pm r p 1 = mm at h2 HP
  have HO2 := Lib.hid h2
  have HA2 := Lib.hid (show Acc C lv w1 lv2 w2 from ⟨f2, k2⟩)
  have HB2 := Lib.hid (below_step HB1.out f2 HN.out)
  clear h2 f2 k2 c0 c4
  have c27 : w2.cell? ⟨C.b, 27, none⟩ = some (.pointer (some ⟨C.wb, 0, none⟩)) := (HO2.out.row.cell 27).trans (mcell27 C _)
  go_wp2_with fail
  have hw := HO2.out.wor
  rw [HP.out.1] at hw
  refine (events_any _ _ _ _ _ hw).mono ?_
  rintro e w3 ⟨v3, rfl, hq, hb3⟩; dsimp only
  have HO3 := Lib.hid (HO2.out.below hb3)
  have HB3 := Lib.hid (HB2.out.trans (hb3.mono HB2.out.size))
  have HQ := Lib.hid hq
  have hv3 : ∃ g cap, v3 = .slice (some ⟨g, 0, none⟩) 1 cap := by
    rcases hq.2 with ⟨_, h0⟩ | ⟨g, cap, _, hv, _⟩
    · cases h0
    · exact ⟨g, cap, hv⟩
  clear c27 hw hq hb3
  obtain ⟨g3, cap3, rfl⟩ := hv3
  go_upto_region 16 with fail
  have hquo : IntKind.u16.wrap (IntKind.u16.wrap (IntKind.u16.wrap (r.g0.v.tdiv 256) * 256) + 77) = 77 + 256 * (r.g0.v / 256) := by
    rw [Int.tdiv_eq_ediv_of_nonneg ax0]
    simp only [IntKind.wrap_u16]
    omega
  have hrem : IntKind.u16.wrap (r.g0.v.tmod 256) = r.g0.v % 256 := by
    rw [Int.tmod_eq_emod_of_nonneg ax0]
    simp only [IntKind.wrap_u16]
    omega
  (try simp only [hquo, hrem])
  clear hquo hrem
  have HO4 := HO3.out.alloc (.cells #[.int .i64 1, .int .u16 p, .int .u16 (77), .int .u16 0, .int .u16 0, .int .u16 0, .int .u16 0] 67)
  have hb4 := (Below.refl w3.heap.size w3).alloc (Nat.le_refl _) (.cells #[.int .i64 1, .int .u16 p, .int .u16 (77), .int .u16 0, .int .u16 0, .int .u16 0, .int .u16 0] 67)
  have HB4 := Lib.hid (HB3.out.trans (hb4.mono HB3.out.size))
  have hrow := Row.new w3 #[.int .i64 1, .int .u16 p, .int .u16 (77), .int .u16 0, .int .u16 0, .int .u16 0, .int .u16 0] 67
  have b0 := (hrow.cell 0).trans (show _ = some (Value.int .i64 (1)) from rfl)
  have e00 := ev_cells HQ.out 0 (Value.int .i64 (1)) rfl
  have e0 := (hb4.cell (World.block_lt_of_cell? _ _ e00)).trans e00
  have b1 := (hrow.cell 1).trans (show _ = some (Value.int .u16 (p)) from rfl)
  have e10 := ev_cells HQ.out 1 (Value.int .u16 (p)) rfl
  have e1 := (hb4.cell (World.block_lt_of_cell? _ _ e10)).trans e10
  have b2 := (hrow.cell 2).trans (show _ = some (Value.int .u16 (77)) from rfl)
  have e20 := ev_cells HQ.out 2 (Value.int .u16 (77)) rfl
  have e2 := (hb4.cell (World.block_lt_of_cell? _ _ e20)).trans e20
  have b3 := (hrow.cell 3).trans (show _ = some (Value.int .u16 (0)) from rfl)
  have e30 := ev_cells HQ.out 3 (Value.int .u16 (0)) rfl
  have e3 := (hb4.cell (World.block_lt_of_cell? _ _ e30)).trans e30
  have b4 := (hrow.cell 4).trans (show _ = some (Value.int .u16 (0)) from rfl)
  have e40 := ev_cells HQ.out 4 (Value.int .u16 (0)) rfl
  have e4 := (hb4.cell (World.block_lt_of_cell? _ _ e40)).trans e40
  have b5 := (hrow.cell 5).trans (show _ = some (Value.int .u16 (0)) from rfl)
  have e50 := ev_cells HQ.out 5 (Value.int .u16 (0)) rfl
  have e5 := (hb4.cell (World.block_lt_of_cell? _ _ e50)).trans e50
  have b6 := (hrow.cell 6).trans (show _ = some (Value.int .u16 (0)) from rfl)
  have e60 := ev_cells HQ.out 6 (Value.int .u16 (0)) rfl
  have e6 := (hb4.cell (World.block_lt_of_cell? _ _ e60)).trans e60
  have ca := (HO4.row.cell 0).trans (show _ = some (Value.int .u16 mm.r.g0.v) from rfl)
  rw [HP.out.2.1] at ca
  have eqe := eq_ev 1 p (77) 0 0 0 0
  clear e00 e10 e20 e30 e40 e50 e60 hrow hb4
  generalize w3.alloc (.cells #[.int .i64 1, .int .u16 p, .int .u16 (77), .int .u16 0, .int .u16 0, .int .u16 0, .int .u16 0] 67) = w4 at HO4 HB4 ca b0 b1 b2 b3 b4 b5 b6 e0 e1 e2 e3 e4 e5 e6 ⊢
  refine range_of (w4) ?_; intro S inst ω hin hout
  have rb0 := range_cell hin b0
  have re0 := range_cell hin e0
  have rb1 := range_cell hin b1
  have re1 := range_cell hin e1
  have rb2 := range_cell hin b2
  have re2 := range_cell hin e2
  have rb3 := range_cell hin b3
  have re3 := range_cell hin e3
  have rb4 := range_cell hin b4
  have re4 := range_cell hin e4
  have rb5 := range_cell hin b5
  have re5 := range_cell hin e5
  have rb6 := range_cell hin b6
  have re6 := range_cell hin e6
  have rc := range_cell hin ca
  have k1 := range_call hin hout awake_any
  have k2 := range_calls hin hout (fun w hw => (state_any w C lv2 _ (HO4.below hw)).mono (by rintro e w' ⟨rfl, rfl⟩; exact ⟨rfl, Below.refl _ _⟩))
  rw [HP.out.2.2] at k2
  clear b0 b1 b2 b3 b4 b5 b6 e0 e1 e2 e3 e4 e5 e6 ca HO4
  refine wp_region_range_lit ω (by kernel_rfl) (by kernel_rfl) (hout _ (Below.refl _ _).drew) ?_
  repeat (go_big_quiet_step (first | (with_reducible exact k1 _) | (with_reducible exact k2 _)))
  refine wpQuiet_nil ?_; intro _ hw'; obtain ⟨nq, rfl⟩ := hw'
  go_wp2_with fail
  go_ret
  exact ⟨rfl, HB4.out.trans ((hin nq).mono HB4.out.size)⟩

set_option maxRecDepth 100000 in
set_option maxHeartbeats 6400000 in
theorem cpuPorts_2 (r : Regs) (hr : r.wf) (p how : Int) (p0 : 0 ≤ p) (p1 : p ≤ 255) (hk : how % 8 = ((2 : Nat) : Int)) (w : World) :
    Calls Tryz.prog 8 #[r.val, .int .u8 p, .int .i64 how] w fun e w' => e = .returned (.bool true) ∧ Below w.heap.size w w' := by
  have m7 : bits .and .i64 how 7 = 2 := and_low how 2 7 hk (by decide)
  have m4 : bits .and .i64 how 4 = 0 := and_low how 2 4 hk (by decide)
  have m2 : bits .and .i64 how 2 = 2 := and_low how 2 2 hk (by decide)
  have m1 : bits .and .i64 how 1 = 0 := and_low how 2 1 hk (by decide)
  have ax0 := hr.g0.1
  have ax1 := hr.g0.2
  clear hk
  go_enter Tryz.func8, Tryz.ntmps8
  go_wp2_with fail
  have hrow := Row.new ((w.alloc (.cells r.cells 28)).alloc (.cells #[.int .u8 228, .int .u8 229, .int .u8 230, .int .u8 231, .int .u8 236, .int .u8 237, .int .u8 238, .int .u8 239] 5)) #[.int .u8 230, .int .u8 p] 5
  have hcell : ∀ k, k < [(230 : Int), p].length → (((w.alloc (.cells r.cells 28)).alloc (.cells #[.int .u8 228, .int .u8 229, .int .u8 230, .int .u8 231, .int .u8 236, .int .u8 237, .int .u8 238, .int .u8 239] 5)).alloc (.cells #[.int .u8 230, .int .u8 p] 5)).cell? ⟨w.heap.size + 1 + 1, k, none⟩ = some (.int .u8 ([(230 : Int), p].getD k 0)) := by
    intro k hk
    have := hrow.cell k
    simp only [World.size_alloc] at this
    rw [this]
    match k, hk with
    | 0, _ | 1, _ => rfl
    | k + 2, h => simp at h; omega
  have hlt : w.heap.size + 1 + 1 < (((w.alloc (.cells r.cells 28)).alloc (.cells #[.int .u8 228, .int .u8 229, .int .u8 230, .int .u8 231, .int .u8 236, .int .u8 237, .int .u8 238, .int .u8 239] 5)).alloc (.cells #[.int .u8 230, .int .u8 p] 5)).heap.size := by
    simp
  have hbw : Below w.heap.size w (((w.alloc (.cells r.cells 28)).alloc (.cells #[.int .u8 228, .int .u8 229, .int .u8 230, .int .u8 231, .int .u8 236, .int .u8 237, .int .u8 238, .int .u8 239] 5)).alloc (.cells #[.int .u8 230, .int .u8 p] 5)) :=
    (((Below.refl w.heap.size w).alloc (Nat.le_refl _) _).alloc (by simp) _).alloc (by simp; omega) _
  have bwf : ∀ k, 0 ≤ [(230 : Int), p].getD k 0 ∧ [(230 : Int), p].getD k 0 ≤ 255 := by
    intro k
    match k with
    | 0 => exact ⟨by show (0 : Int) ≤ 230; decide, by show (230 : Int) ≤ 255; decide⟩
    | 1 => exact ⟨p0, p1⟩
    | k + 2 => simp
  refine (begin_any _ r hr (w.heap.size + 1 + 1) 2 [230, p] hlt hcell bwf (by simp)).mono ?_
  clear hcell hlt hrow bwf
  generalize (((w.alloc (.cells r.cells 28)).alloc (.cells #[.int .u8 228, .int .u8 229, .int .u8 230, .int .u8 231, .int .u8 236, .int .u8 237, .int .u8 238, .int .u8 239] 5)).alloc (.cells #[.int .u8 230, .int .u8 p] 5)) = W0 at hbw ⊢
  rintro e w1 ⟨C, lv, rfl, ho, hb1, hn⟩; dsimp only
  have HO1 := Lib.hid ho
  have HB1 := Lib.hid (hbw.trans (hb1.mono hbw.size))
  have HN := Lib.hid (fun k (hk : k < w.heap.size) => hn k (Nat.lt_of_lt_of_le hk hbw.size))
  clear ho hb1 hn hbw
  have c0 : w1.cell? ⟨C.b, 0, none⟩ = some (.int .u16 r.g0.v) := (HO1.out.row.cell 0).trans rfl
  have c4 : w1.cell? ⟨C.b, 4, none⟩ = some (.int .u16 r.g2.v) := (HO1.out.row.cell 4).trans rfl
  go_wp2_with fail
  refine (pm_step2 hr C p p0 p1 _ _ HO1.out).mono ?_
  rintro e w2 ⟨rfl, lv2, h2, f2, k2⟩; dsimp only
  have HP := Lib.hid ((pm_says r p).2.2.1)
  generalize pm r p 2 = mm at h2 HP
  have HO2 := Lib.hid h2
  have HA2 := Lib.hid (show Acc C lv w1 lv2 w2 from ⟨f2, k2⟩)
  have HB2 := Lib.hid (below_step HB1.out f2 HN.out)
  clear h2 f2 k2 c0 c4
  have c27 : w2.cell? ⟨C.b, 27, none⟩ = some (.pointer (some ⟨C.wb, 0, none⟩)) := (HO2.out.row.cell 27).trans (mcell27 C _)
  go_wp2_with fail
  have hw := HO2.out.wor
  rw [HP.out.1] at hw
  refine (events_any _ _ _ _ _ hw).mono ?_
  rintro e w3 ⟨v3, rfl, hq, hb3⟩; dsimp only
  have HO3 := Lib.hid (HO2.out.below hb3)
  have HB3 := Lib.hid (HB2.out.trans (hb3.mono HB2.out.size))
  have HQ := Lib.hid hq
  have hv3 : ∃ g cap, v3 = .slice (some ⟨g, 0, none⟩) 1 cap := by
    rcases hq.2 with ⟨_, h0⟩ | ⟨g, cap, _, hv, _⟩
    · cases h0
    · exact ⟨g, cap, hv⟩
  clear c27 hw hq hb3
  obtain ⟨g3, cap3, rfl⟩ := hv3
  go_upto_region 16 with fail
  have hquo : IntKind.u16.wrap (IntKind.u16.wrap (IntKind.u16.wrap (r.g0.v.tdiv 256) * 256) + 77) = 77 + 256 * (r.g0.v / 256) := by
    rw [Int.tdiv_eq_ediv_of_nonneg ax0]
    simp only [IntKind.wrap_u16]
    omega
  have hrem : IntKind.u16.wrap (r.g0.v.tmod 256) = r.g0.v % 256 := by
    rw [Int.tmod_eq_emod_of_nonneg ax0]
    simp only [IntKind.wrap_u16]
    omega
  (try simp only [hquo, hrem])
  clear hquo hrem
  have HO4 := HO3.out.alloc (.cells #[.int .i64 2, .int .u16 p, .int .u16 (r.g0.v % 256), .int .u16 0, .int .u16 0, .int .u16 0, .int .u16 0] 67)
  have hb4 := (Below.refl w3.heap.size w3).alloc (Nat.le_refl _) (.cells #[.int .i64 2, .int .u16 p, .int .u16 (r.g0.v % 256), .int .u16 0, .int .u16 0, .int .u16 0, .int .u16 0] 67)
  have HB4 := Lib.hid (HB3.out.trans (hb4.mono HB3.out.size))
  have hrow := Row.new w3 #[.int .i64 2, .int .u16 p, .int .u16 (r.g0.v % 256), .int .u16 0, .int .u16 0, .int .u16 0, .int .u16 0] 67
  have b0 := (hrow.cell 0).trans (show _ = some (Value.int .i64 (2)) from rfl)
  have e00 := ev_cells HQ.out 0 (Value.int .i64 (2)) rfl
  have e0 := (hb4.cell (World.block_lt_of_cell? _ _ e00)).trans e00
  have b1 := (hrow.cell 1).trans (show _ = some (Value.int .u16 (p)) from rfl)
  have e10 := ev_cells HQ.out 1 (Value.int .u16 (p)) rfl
  have e1 := (hb4.cell (World.block_lt_of_cell? _ _ e10)).trans e10
  have b2 := (hrow.cell 2).trans (show _ = some (Value.int .u16 (r.g0.v % 256)) from rfl)
  have e20 := ev_cells HQ.out 2 (Value.int .u16 (r.g0.v % 256)) rfl
  have e2 := (hb4.cell (World.block_lt_of_cell? _ _ e20)).trans e20
  have b3 := (hrow.cell 3).trans (show _ = some (Value.int .u16 (0)) from rfl)
  have e30 := ev_cells HQ.out 3 (Value.int .u16 (0)) rfl
  have e3 := (hb4.cell (World.block_lt_of_cell? _ _ e30)).trans e30
  have b4 := (hrow.cell 4).trans (show _ = some (Value.int .u16 (0)) from rfl)
  have e40 := ev_cells HQ.out 4 (Value.int .u16 (0)) rfl
  have e4 := (hb4.cell (World.block_lt_of_cell? _ _ e40)).trans e40
  have b5 := (hrow.cell 5).trans (show _ = some (Value.int .u16 (0)) from rfl)
  have e50 := ev_cells HQ.out 5 (Value.int .u16 (0)) rfl
  have e5 := (hb4.cell (World.block_lt_of_cell? _ _ e50)).trans e50
  have b6 := (hrow.cell 6).trans (show _ = some (Value.int .u16 (0)) from rfl)
  have e60 := ev_cells HQ.out 6 (Value.int .u16 (0)) rfl
  have e6 := (hb4.cell (World.block_lt_of_cell? _ _ e60)).trans e60
  have ca := (HO4.row.cell 0).trans (show _ = some (Value.int .u16 mm.r.g0.v) from rfl)
  rw [HP.out.2.1] at ca
  have eqe := eq_ev 2 p (r.g0.v % 256) 0 0 0 0
  clear e00 e10 e20 e30 e40 e50 e60 hrow hb4
  generalize w3.alloc (.cells #[.int .i64 2, .int .u16 p, .int .u16 (r.g0.v % 256), .int .u16 0, .int .u16 0, .int .u16 0, .int .u16 0] 67) = w4 at HO4 HB4 ca b0 b1 b2 b3 b4 b5 b6 e0 e1 e2 e3 e4 e5 e6 ⊢
  refine range_of (w4) ?_; intro S inst ω hin hout
  have rb0 := range_cell hin b0
  have re0 := range_cell hin e0
  have rb1 := range_cell hin b1
  have re1 := range_cell hin e1
  have rb2 := range_cell hin b2
  have re2 := range_cell hin e2
  have rb3 := range_cell hin b3
  have re3 := range_cell hin e3
  have rb4 := range_cell hin b4
  have re4 := range_cell hin e4
  have rb5 := range_cell hin b5
  have re5 := range_cell hin e5
  have rb6 := range_cell hin b6
  have re6 := range_cell hin e6
  have rc := range_cell hin ca
  have k1 := range_call hin hout awake_any
  have k2 := range_calls hin hout (fun w hw => (state_any w C lv2 _ (HO4.below hw)).mono (by rintro e w' ⟨rfl, rfl⟩; exact ⟨rfl, Below.refl _ _⟩))
  rw [HP.out.2.2] at k2
  clear b0 b1 b2 b3 b4 b5 b6 e0 e1 e2 e3 e4 e5 e6 ca HO4
  refine wp_region_range_lit ω (by kernel_rfl) (by kernel_rfl) (hout _ (Below.refl _ _).drew) ?_
  repeat (go_big_quiet_step (first | (with_reducible exact k1 _) | (with_reducible exact k2 _)))
  refine wpQuiet_nil ?_; intro _ hw'; obtain ⟨nq, rfl⟩ := hw'
  go_wp2_with fail
  go_ret
  exact ⟨rfl, HB4.out.trans ((hin nq).mono HB4.out.size)⟩

set_option maxRecDepth 100000 in
set_option maxHeartbeats 6400000 in
theorem cpuPorts_3 (r : Regs) (hr : r.wf) (p how : Int) (p0 : 0 ≤ p) (p1 : p ≤ 255) (hk : how % 8 = ((3 : Nat) : Int)) (w : World) :
    Calls Tryz.prog 8 #[r.val, .int .u8 p, .int .i64 how] w fun e w' => e = .returned (.bool true) ∧ Below w.heap.size w w' := by
  have m7 : bits .and .i64 how 7 = 3 := and_low how 3 7 hk (by decide)
  have m4 : bits .and .i64 how 4 = 0 := and_low how 3 4 hk (by decide)
  have m2 : bits .and .i64 how 2 = 2 := and_low how 3 2 hk (by decide)
  have m1 : bits .and .i64 how 1 = 1 := and_low how 3 1 hk (by decide)
  have ax0 := hr.g0.1
  have ax1 := hr.g0.2
  clear hk
  go_enter Tryz.func8, Tryz.ntmps8
  go_wp2_with fail
  have hrow := Row.new ((w.alloc (.cells r.cells 28)).alloc (.cells #[.int .u8 228, .int .u8 229, .int .u8 230, .int .u8 231, .int .u8 236, .int .u8 237, .int .u8 238, .int .u8 239] 5)) #[.int .u8 231, .int .u8 p] 5
  have hcell : ∀ k, k < [(231 : Int), p].length → (((w.alloc (.cells r.cells 28)).alloc (.cells #[.int .u8 228, .int .u8 229, .int .u8 230, .int .u8 231, .int .u8 236, .int .u8 237, .int .u8 238, .int .u8 239] 5)).alloc (.cells #[.int .u8 231, .int .u8 p] 5)).cell? ⟨w.heap.size + 1 + 1, k, none⟩ = some (.int .u8 ([(231 : Int), p].getD k 0)) := by
    intro k hk
    have := hrow.cell k
    simp only [World.size_alloc] at this
    rw [this]
    match k, hk with
    | 0, _ | 1, _ => rfl
    | k + 2, h => simp at h; omega
  have hlt : w.heap.size + 1 + 1 < (((w.alloc (.cells r.cells 28)).alloc (.cells #[.int .u8 228, .int .u8 229, .int .u8 230, .int .u8 231, .int .u8 236, .int .u8 237, .int .u8 238, .int .u8 239] 5)).alloc (.cells #[.int .u8 231, .int .u8 p] 5)).heap.size := by
    simp
  have hbw : Below w.heap.size w (((w.alloc (.cells r.cells 28)).alloc (.cells #[.int .u8 228, .int .u8 229, .int .u8 230, .int .u8 231, .int .u8 236, .int .u8 237, .int .u8 238, .int .u8 239] 5)).alloc (.cells #[.int .u8 231, .int .u8 p] 5)) :=
    (((Below.refl w.heap.size w).alloc (Nat.le_refl _) _).alloc (by simp) _).alloc (by simp; omega) _
  have bwf : ∀ k, 0 ≤ [(231 : Int), p].getD k 0 ∧ [(231 : Int), p].getD k 0 ≤ 255 := by
    intro k
    match k with
    | 0 => exact ⟨by show (0 : Int) ≤ 231; decide, by show (231 : Int) ≤ 255; decide⟩
    | 1 => exact ⟨p0, p1⟩
    | k + 2 => simp
  refine (begin_any _ r hr (w.heap.size + 1 + 1) 2 [231, p] hlt hcell bwf (by simp)).mono ?_
  clear hcell hlt hrow bwf
  generalize (((w.alloc (.cells r.cells 28)).alloc (.cells #[.int .u8 228, .int .u8 229, .int .u8 230, .int .u8 231, .int .u8 236, .int .u8 237, .int .u8 238, .int .u8 239] 5)).alloc (.cells #[.int .u8 231, .int .u8 p] 5)) = W0 at hbw ⊢
  rintro e w1 ⟨C, lv, rfl, ho, hb1, hn⟩; dsimp only
  have HO1 := Lib.hid ho
  have HB1 := Lib.hid (hbw.trans (hb1.mono hbw.size))
  have HN := Lib.hid (fun k (hk : k < w.heap.size) => hn k (Nat.lt_of_lt_of_le hk hbw.size))
  clear ho hb1 hn hbw
  have c0 : w1.cell? ⟨C.b, 0, none⟩ = some (.int .u16 r.g0.v) := (HO1.out.row.cell 0).trans rfl
  have c4 : w1.cell? ⟨C.b, 4, none⟩ = some (.int .u16 r.g2.v) := (HO1.out.row.cell 4).trans rfl
  go_wp2_with fail
  refine (pm_step3 hr C p p0 p1 _ _ HO1.out).mono ?_
  rintro e w2 ⟨rfl, lv2, h2, f2, k2⟩; dsimp only
  have HP := Lib.hid ((pm_says r p).2.2.2.1)
  generalize pm r p 3 = mm at h2 HP
  have HO2 := Lib.hid h2
  have HA2 := Lib.hid (show Acc C lv w1 lv2 w2 from ⟨f2, k2⟩)
  have HB2 := Lib.hid (below_step HB1.out f2 HN.out)
  clear h2 f2 k2 c0 c4
  have c27 : w2.cell? ⟨C.b, 27, none⟩ = some (.pointer (some ⟨C.wb, 0, none⟩)) := (HO2.out.row.cell 27).trans (mcell27 C _)
  go_wp2_with fail
  have hw := HO2.out.wor
  rw [HP.out.1] at hw
  refine (events_any _ _ _ _ _ hw).mono ?_
  rintro e w3 ⟨v3, rfl, hq, hb3⟩; dsimp only
  have HO3 := Lib.hid (HO2.out.below hb3)
  have HB3 := Lib.hid (HB2.out.trans (hb3.mono HB2.out.size))
  have HQ := Lib.hid hq
  have hv3 : ∃ g cap, v3 = .slice (some ⟨g, 0, none⟩) 1 cap := by
    rcases hq.2 with ⟨_, h0⟩ | ⟨g, cap, _, hv, _⟩
    · cases h0
    · exact ⟨g, cap, hv⟩
  clear c27 hw hq hb3
  obtain ⟨g3, cap3, rfl⟩ := hv3
  go_upto_region 16 with fail
  have hquo : IntKind.u16.wrap (IntKind.u16.wrap (IntKind.u16.wrap (r.g0.v.tdiv 256) * 256) + 77) = 77 + 256 * (r.g0.v / 256) := by
    rw [Int.tdiv_eq_ediv_of_nonneg ax0]
    simp only [IntKind.wrap_u16]
    omega
  have hrem : IntKind.u16.wrap (r.g0.v.tmod 256) = r.g0.v % 256 := by
    rw [Int.tmod_eq_emod_of_nonneg ax0]
    simp only [IntKind.wrap_u16]
    omega
  (try simp only [hquo, hrem])
  clear hquo hrem
  have HO4 := HO3.out.alloc (.cells #[.int .i64 2, .int .u16 p, .int .u16 (r.g0.v), .int .u16 0, .int .u16 0, .int .u16 0, .int .u16 0] 67)
  have hb4 := (Below.refl w3.heap.size w3).alloc (Nat.le_refl _) (.cells #[.int .i64 2, .int .u16 p, .int .u16 (r.g0.v), .int .u16 0, .int .u16 0, .int .u16 0, .int .u16 0] 67)
  have HB4 := Lib.hid (HB3.out.trans (hb4.mono HB3.out.size))
  have hrow := Row.new w3 #[.int .i64 2, .int .u16 p, .int .u16 (r.g0.v), .int .u16 0, .int .u16 0, .int .u16 0, .int .u16 0] 67
  have b0 := (hrow.cell 0).trans (show _ = some (Value.int .i64 (2)) from rfl)
  have e00 := ev_cells HQ.out 0 (Value.int .i64 (2)) rfl
  have e0 := (hb4.cell (World.block_lt_of_cell? _ _ e00)).trans e00
  have b1 := (hrow.cell 1).trans (show _ = some (Value.int .u16 (p)) from rfl)
  have e10 := ev_cells HQ.out 1 (Value.int .u16 (p)) rfl
  have e1 := (hb4.cell (World.block_lt_of_cell? _ _ e10)).trans e10
  have b2 := (hrow.cell 2).trans (show _ = some (Value.int .u16 (r.g0.v)) from rfl)
  have e20 := ev_cells HQ.out 2 (Value.int .u16 (r.g0.v)) rfl
  have e2 := (hb4.cell (World.block_lt_of_cell? _ _ e20)).trans e20
  have b3 := (hrow.cell 3).trans (show _ = some (Value.int .u16 (0)) from rfl)
  have e30 := ev_cells HQ.out 3 (Value.int .u16 (0)) rfl
  have e3 := (hb4.cell (World.block_lt_of_cell? _ _ e30)).trans e30
  have b4 := (hrow.cell 4).trans (show _ = some (Value.int .u16 (0)) from rfl)
  have e40 := ev_cells HQ.out 4 (Value.int .u16 (0)) rfl
  have e4 := (hb4.cell (World.block_lt_of_cell? _ _ e40)).trans e40
  have b5 := (hrow.cell 5).trans (show _ = some (Value.int .u16 (0)) from rfl)
  have e50 := ev_cells HQ.out 5 (Value.int .u16 (0)) rfl
  have e5 := (hb4.cell (World.block_lt_of_cell? _ _ e50)).trans e50
  have b6 := (hrow.cell 6).trans (show _ = some (Value.int .u16 (0)) from rfl)
  have e60 := ev_cells HQ.out 6 (Value.int .u16 (0)) rfl
  have e6 := (hb4.cell (World.block_lt_of_cell? _ _ e60)).trans e60
  have ca := (HO4.row.cell 0).trans (show _ = some (Value.int .u16 mm.r.g0.v) from rfl)
  rw [HP.out.2.1] at ca
  have eqe := eq_ev 2 p (r.g0.v) 0 0 0 0
  clear e00 e10 e20 e30 e40 e50 e60 hrow hb4
  generalize w3.alloc (.cells #[.int .i64 2, .int .u16 p, .int .u16 (r.g0.v), .int .u16 0, .int .u16 0, .int .u16 0, .int .u16 0] 67) = w4 at HO4 HB4 ca b0 b1 b2 b3 b4 b5 b6 e0 e1 e2 e3 e4 e5 e6 ⊢
  refine range_of (w4) ?_; intro S inst ω hin hout
  have rb0 := range_cell hin b0
  have re0 := range_cell hin e0
  have rb1 := range_cell hin b1
  have re1 := range_cell hin e1
  have rb2 := range_cell hin b2
  have re2 := range_cell hin e2
  have rb3 := range_cell hin b3
  have re3 := range_cell hin e3
  have rb4 := range_cell hin b4
  have re4 := range_cell hin e4
  have rb5 := range_cell hin b5
  have re5 := range_cell hin e5
  have rb6 := range_cell hin b6
  have re6 := range_cell hin e6
  have rc := range_cell hin ca
  have k1 := range_call hin hout awake_any
  have k2 := range_calls hin hout (fun w hw => (state_any w C lv2 _ (HO4.below hw)).mono (by rintro e w' ⟨rfl, rfl⟩; exact ⟨rfl, Below.refl _ _⟩))
  rw [HP.out.2.2] at k2
  clear b0 b1 b2 b3 b4 b5 b6 e0 e1 e2 e3 e4 e5 e6 ca HO4
  refine wp_region_range_lit ω (by kernel_rfl) (by kernel_rfl) (hout _ (Below.refl _ _).drew) ?_
  repeat (go_big_quiet_step (first | (with_reducible exact k1 _) | (with_reducible exact k2 _)))
  refine wpQuiet_nil ?_; intro _ hw'; obtain ⟨nq, rfl⟩ := hw'
  go_wp2_with fail
  go_ret
  exact ⟨rfl, HB4.out.trans ((hin nq).mono HB4.out.size)⟩

set_option maxRecDepth 100000 in
set_option maxHeartbeats 6400000 in
theorem cpuPorts_4 (r : Regs) (hr : r.wf) (p how : Int) (p0 : 0 ≤ p) (p1 : p ≤ 255) (hk : how % 8 = ((4 : Nat) : Int)) (w : World) :
    Calls Tryz.prog 8 #[r.val, .int .u8 p, .int .i64 how] w fun e w' => e = .returned (.bool true) ∧ Below w.heap.size w w' := by
  have m7 : bits .and .i64 how 7 = 4 := and_low how 4 7 hk (by decide)
  have m4 : bits .and .i64 how 4 = 4 := and_low how 4 4 hk (by decide)
  have m2 : bits .and .i64 how 2 = 0 := and_low how 4 2 hk (by decide)
  have m1 : bits .and .i64 how 1 = 0 := and_low how 4 1 hk (by decide)
  have ax0 := hr.g0.1
  have ax1 := hr.g0.2
  clear hk
  go_enter Tryz.func8, Tryz.ntmps8
  go_wp2_with fail
  have hrow := Row.new ((w.alloc (.cells r.cells 28)).alloc (.cells #[.int .u8 228, .int .u8 229, .int .u8 230, .int .u8 231, .int .u8 236, .int .u8 237, .int .u8 238, .int .u8 239] 5)) #[.int .u8 236, .int .u8 p] 5
  have hcell : ∀ k, k < [(236 : Int), p].length → (((w.alloc (.cells r.cells 28)).alloc (.cells #[.int .u8 228, .int .u8 229, .int .u8 230, .int .u8 231, .int .u8 236, .int .u8 237, .int .u8 238, .int .u8 239] 5)).alloc (.cells #[.int .u8 236, .int .u8 p] 5)).cell? ⟨w.heap.size + 1 + 1, k, none⟩ = some (.int .u8 ([(236 : Int), p].getD k 0)) := by
    intro k hk
    have := hrow.cell k
    simp only [World.size_alloc] at this
    rw [this]
    match k, hk with
    | 0, _ | 1, _ => rfl
    | k + 2, h => simp at h; omega
  have hlt : w.heap.size + 1 + 1 < (((w.alloc (.cells r.cells 28)).alloc (.cells #[.int .u8 228, .int .u8 229, .int .u8 230, .int .u8 231, .int .u8 236, .int .u8 237, .int .u8 238, .int .u8 239] 5)).alloc (.cells #[.int .u8 236, .int .u8 p] 5)).heap.size := by
    simp
  have hbw : Below w.heap.size w (((w.alloc (.cells r.cells 28)).alloc (.cells #[.int .u8 228, .int .u8 229, .int .u8 230, .int .u8 231, .int .u8 236, .int .u8 237, .int .u8 238, .int .u8 239] 5)).alloc (.cells #[.int .u8 236, .int .u8 p] 5)) :=
    (((Below.refl w.heap.size w).alloc (Nat.le_refl _) _).alloc (by simp) _).alloc (by simp; omega) _
  have bwf : ∀ k, 0 ≤ [(236 : Int), p].getD k 0 ∧ [(236 : Int), p].getD k 0 ≤ 255 := by
    intro k
    match k with
    | 0 => exact ⟨by show (0 : Int) ≤ 236; decide, by show (236 : Int) ≤ 255; decide⟩
    | 1 => exact ⟨p0, p1⟩
    | k + 2 => simp
  refine (begin_any _ r hr (w.heap.size + 1 + 1) 2 [236, p] hlt hcell bwf (by simp)).mono ?_
  clear hcell hlt hrow bwf
  generalize (((w.alloc (.cells r.cells 28)).alloc (.cells #[.int .u8 228, .int .u8 229, .int .u8 230, .int .u8 231, .int .u8 236, .int .u8 237, .int .u8 238, .int .u8 239] 5)).alloc (.cells #[.int .u8 236, .int .u8 p] 5)) = W0 at hbw ⊢
  rintro e w1 ⟨C, lv, rfl, ho, hb1, hn⟩; dsimp only
  have HO1 := Lib.hid ho
  have HB1 := Lib.hid (hbw.trans (hb1.mono hbw.size))
  have HN := Lib.hid (fun k (hk : k < w.heap.size) => hn k (Nat.lt_of_lt_of_le hk hbw.size))
  clear ho hb1 hn hbw
  have c0 : w1.cell? ⟨C.b, 0, none⟩ = some (.int .u16 r.g0.v) := (HO1.out.row.cell 0).trans rfl
  have c4 : w1.cell? ⟨C.b, 4, none⟩ = some (.int .u16 r.g2.v) := (HO1.out.row.cell 4).trans rfl
  go_wp2_with fail
  refine (pm_step4 hr C p p0 p1 _ _ HO1.out).mono ?_
  rintro e w2 ⟨rfl, lv2, h2, f2, k2⟩; dsimp only
  have HP := Lib.hid ((pm_says r p).2.2.2.2.1)
  generalize pm r p 4 = mm at h2 HP
  have HO2 := Lib.hid h2
  have HA2 := Lib.hid (show Acc C lv w1 lv2 w2 from ⟨f2, k2⟩)
  have HB2 := Lib.hid (below_step HB1.out f2 HN.out)
  clear h2 f2 k2 c0 c4
  have c27 : w2.cell? ⟨C.b, 27, none⟩ = some (.pointer (some ⟨C.wb, 0, none⟩)) := (HO2.out.row.cell 27).trans (mcell27 C _)
  go_wp2_with fail
  have hw := HO2.out.wor
  rw [HP.out.1] at hw
  refine (events_any _ _ _ _ _ hw).mono ?_
  rintro e w3 ⟨v3, rfl, hq, hb3⟩; dsimp only
  have HO3 := Lib.hid (HO2.out.below hb3)
  have HB3 := Lib.hid (HB2.out.trans (hb3.mono HB2.out.size))
  have HQ := Lib.hid hq
  have hv3 : ∃ g cap, v3 = .slice (some ⟨g, 0, none⟩) 1 cap := by
    rcases hq.2 with ⟨_, h0⟩ | ⟨g, cap, _, hv, _⟩
    · cases h0
    · exact ⟨g, cap, hv⟩
  clear c27 hw hq hb3
  obtain ⟨g3, cap3, rfl⟩ := hv3
  go_upto_region 16 with fail
  have hquo : IntKind.u16.wrap (IntKind.u16.wrap (IntKind.u16.wrap (r.g0.v.tdiv 256) * 256) + 77) = 77 + 256 * (r.g0.v / 256) := by
    rw [Int.tdiv_eq_ediv_of_nonneg ax0]
    simp only [IntKind.wrap_u16]
    omega
  have hrem : IntKind.u16.wrap (r.g0.v.tmod 256) = r.g0.v % 256 := by
    rw [Int.tmod_eq_emod_of_nonneg ax0]
    simp only [IntKind.wrap_u16]
    omega
  (try simp only [hquo, hrem])
  clear hquo hrem
  have HO4 := HO3.out.alloc (.cells #[.int .i64 1, .int .u16 r.g2.v, .int .u16 (77), .int .u16 0, .int .u16 0, .int .u16 0, .int .u16 0] 67)
  have hb4 := (Below.refl w3.heap.size w3).alloc (Nat.le_refl _) (.cells #[.int .i64 1, .int .u16 r.g2.v, .int .u16 (77), .int .u16 0, .int .u16 0, .int .u16 0, .int .u16 0] 67)
  have HB4 := Lib.hid (HB3.out.trans (hb4.mono HB3.out.size))
  have hrow := Row.new w3 #[.int .i64 1, .int .u16 r.g2.v, .int .u16 (77), .int .u16 0, .int .u16 0, .int .u16 0, .int .u16 0] 67
  have b0 := (hrow.cell 0).trans (show _ = some (Value.int .i64 (1)) from rfl)
  have e00 := ev_cells HQ.out 0 (Value.int .i64 (1)) rfl
  have e0 := (hb4.cell (World.block_lt_of_cell? _ _ e00)).trans e00
  have b1 := (hrow.cell 1).trans (show _ = some (Value.int .u16 (r.g2.v)) from rfl)
  have e10 := ev_cells HQ.out 1 (Value.int .u16 (r.g2.v)) rfl
  have e1 := (hb4.cell (World.block_lt_of_cell? _ _ e10)).trans e10
  have b2 := (hrow.cell 2).trans (show _ = some (Value.int .u16 (77)) from rfl)
  have e20 := ev_cells HQ.out 2 (Value.int .u16 (77)) rfl
  have e2 := (hb4.cell (World.block_lt_of_cell? _ _ e20)).trans e20
  have b3 := (hrow.cell 3).trans (show _ = some (Value.int .u16 (0)) from rfl)
  have e30 := ev_cells HQ.out 3 (Value.int .u16 (0)) rfl
  have e3 := (hb4.cell (World.block_lt_of_cell? _ _ e30)).trans e30
  have b4 := (hrow.cell 4).trans (show _ = some (Value.int .u16 (0)) from rfl)
  have e40 := ev_cells HQ.out 4 (Value.int .u16 (0)) rfl
  have e4 := (hb4.cell (World.block_lt_of_cell? _ _ e40)).trans e40
  have b5 := (hrow.cell 5).trans (show _ = some (Value.int .u16 (0)) from rfl)
  have e50 := ev_cells HQ.out 5 (Value.int .u16 (0)) rfl
  have e5 := (hb4.cell (World.block_lt_of_cell? _ _ e50)).trans e50
  have b6 := (hrow.cell 6).trans (show _ = some (Value.int .u16 (0)) from rfl)
  have e60 := ev_cells HQ.out 6 (Value.int .u16 (0)) rfl
  have e6 := (hb4.cell (World.block_lt_of_cell? _ _ e60)).trans e60
  have ca := (HO4.row.cell 0).trans (show _ = some (Value.int .u16 mm.r.g0.v) from rfl)
  rw [HP.out.2.1] at ca
  have eqe := eq_ev 1 r.g2.v (77) 0 0 0 0
  clear e00 e10 e20 e30 e40 e50 e60 hrow hb4
  generalize w3.alloc (.cells #[.int .i64 1, .int .u16 r.g2.v, .int .u16 (77), .int .u16 0, .int .u16 0, .int .u16 0, .int .u16 0] 67) = w4 at HO4 HB4 ca b0 b1 b2 b3 b4 b5 b6 e0 e1 e2 e3 e4 e5 e6 ⊢
  refine range_of (w4) ?_; intro S inst ω hin hout
  have rb0 := range_cell hin b0
  have re0 := range_cell hin e0
  have rb1 := range_cell hin b1
  have re1 := range_cell hin e1
  have rb2 := range_cell hin b2
  have re2 := range_cell hin e2
  have rb3 := range_cell hin b3
  have re3 := range_cell hin e3
  have rb4 := range_cell hin b4
  have re4 := range_cell hin e4
  have rb5 := range_cell hin b5
  have re5 := range_cell hin e5
  have rb6 := range_cell hin b6
  have re6 := range_cell hin e6
  have rc := range_cell hin ca
  have k1 := range_call hin hout awake_any
  have k2 := range_calls hin hout (fun w hw => (state_any w C lv2 _ (HO4.below hw)).mono (by rintro e w' ⟨rfl, rfl⟩; exact ⟨rfl, Below.refl _ _⟩))
  rw [HP.out.2.2] at k2
  clear b0 b1 b2 b3 b4 b5 b6 e0 e1 e2 e3 e4 e5 e6 ca HO4
  refine wp_region_range_lit ω (by kernel_rfl) (by kernel_rfl) (hout _ (Below.refl _ _).drew) ?_
  repeat (go_big_quiet_step (first | (with_reducible exact k1 _) | (with_reducible exact k2 _)))
  refine wpQuiet_nil ?_; intro _ hw'; obtain ⟨nq, rfl⟩ := hw'
  go_wp2_with fail
  go_ret
  exact ⟨rfl, HB4.out.trans ((hin nq).mono HB4.out.size)⟩

set_option maxRecDepth 100000 in
set_option maxHeartbeats 6400000 in
theorem cpuPorts_5 (r : Regs) (hr : r.wf) (p how : Int) (p0 : 0 ≤ p) (p1 : p ≤ 255) (hk : how % 8 = ((5 : Nat) : Int)) (w : World) :
    Calls Tryz.prog 8 #[r.val, .int .u8 p, .int .i64 how] w fun e w' => e = .returned (.bool true) ∧ Below w.heap.size w w' := by
  have m7 : bits .and .i64 how 7 = 5 := and_low how 5 7 hk (by decide)
  have m4 : bits .and .i64 how 4 = 4 := and_low how 5 4 hk (by decide)
  have m2 : bits .and .i64 how 2 = 0 := and_low how 5 2 hk (by decide)
  have m1 : bits .and .i64 how 1 = 1 := and_low how 5 1 hk (by decide)
  have ax0 := hr.g0.1
  have ax1 := hr.g0.2
  clear hk
  go_enter Tryz.func8, Tryz.ntmps8
  go_wp2_with fail
  have hrow := Row.new ((w.alloc (.cells r.cells 28)).alloc (.cells #[.int .u8 228, .int .u8 229, .int .u8 230, .int .u8 231, .int .u8 236, .int .u8 237, .int .u8 238, .int .u8 239] 5)) #[.int .u8 237, .int .u8 p] 5
  have hcell : ∀ k, k < [(237 : Int), p].length → (((w.alloc (.cells r.cells 28)).alloc (.cells #[.int .u8 228, .int .u8 229, .int .u8 230, .int .u8 231, .int .u8 236, .int .u8 237, .int .u8 238, .int .u8 239] 5)).alloc (.cells #[.int .u8 237, .int .u8 p] 5)).cell? ⟨w.heap.size + 1 + 1, k, none⟩ = some (.int .u8 ([(237 : Int), p].getD k 0)) := by
    intro k hk
    have := hrow.cell k
    simp only [World.size_alloc] at this
    rw [this]
    match k, hk with
    | 0, _ | 1, _ => rfl
    | k + 2, h => simp at h; omega
  have hlt : w.heap.size + 1 + 1 < (((w.alloc (.cells r.cells 28)).alloc (.cells #[.int .u8 228, .int .u8 229, .int .u8 230, .int .u8 231, .int .u8 236, .int .u8 237, .int .u8 238, .int .u8 239] 5)).alloc (.cells #[.int .u8 237, .int .u8 p] 5)).heap.size := by
    simp
  have hbw : Below w.heap.size w (((w.alloc (.cells r.cells 28)).alloc (.cells #[.int .u8 228, .int .u8 229, .int .u8 230, .int .u8 231, .int .u8 236, .int .u8 237, .int .u8 238, .int .u8 239] 5)).alloc (.cells #[.int .u8 237, .int .u8 p] 5)) :=
    (((Below.refl w.heap.size w).alloc (Nat.le_refl _) _).alloc (by simp) _).alloc (by simp; omega) _
  have bwf : ∀ k, 0 ≤ [(237 : Int), p].getD k 0 ∧ [(237 : Int), p].getD k 0 ≤ 255 := by
    intro k
    match k with
    | 0 => exact ⟨by show (0 : Int) ≤ 237; decide, by show (237 : Int) ≤ 255; decide⟩
    | 1 => exact ⟨p0, p1⟩
    | k + 2 => simp
  refine (begin_any _ r hr (w.heap.size + 1 + 1) 2 [237, p] hlt hcell bwf (by simp)).mono ?_
  clear hcell hlt hrow bwf
  generalize (((w.alloc (.cells r.cells 28)).alloc (.cells #[.int .u8 228, .int .u8 229, .int .u8 230, .int .u8 231, .int .u8 236, .int .u8 237, .int .u8 238, .int .u8 239] 5)).alloc (.cells #[.int .u8 237, .int .u8 p] 5)) = W0 at hbw ⊢
  rintro e w1 ⟨C, lv, rfl, ho, hb1, hn⟩; dsimp only
  have HO1 := Lib.hid ho
  have HB1 := Lib.hid (hbw.trans (hb1.mono hbw.size))
  have HN := Lib.hid (fun k (hk : k < w.heap.size) => hn k (Nat.lt_of_lt_of_le hk hbw.size))
  clear ho hb1 hn hbw
  have c0 : w1.cell? ⟨C.b, 0, none⟩ = some (.int .u16 r.g0.v) := (HO1.out.row.cell 0).trans rfl
  have c4 : w1.cell? ⟨C.b, 4, none⟩ = some (.int .u16 r.g2.v) := (HO1.out.row.cell 4).trans rfl
  go_wp2_with fail
  refine (pm_step5 hr C p p0 p1 _ _ HO1.out).mono ?_
  rintro e w2 ⟨rfl, lv2, h2, f2, k2⟩; dsimp only
  have HP := Lib.hid ((pm_says r p).2.2.2.2.2.1)
  generalize pm r p 5 = mm at h2 HP
  have HO2 := Lib.hid h2
  have HA2 := Lib.hid (show Acc C lv w1 lv2 w2 from ⟨f2, k2⟩)
  have HB2 := Lib.hid (below_step HB1.out f2 HN.out)
  clear h2 f2 k2 c0 c4
  have c27 : w2.cell? ⟨C.b, 27, none⟩ = some (.pointer (some ⟨C.wb, 0, none⟩)) := (HO2.out.row.cell 27).trans (mcell27 C _)
  go_wp2_with fail
  have hw := HO2.out.wor
  rw [HP.out.1] at hw
  refine (events_any _ _ _ _ _ hw).mono ?_
  rintro e w3 ⟨v3, rfl, hq, hb3⟩; dsimp only
  have HO3 := Lib.hid (HO2.out.below hb3)
  have HB3 := Lib.hid (HB2.out.trans (hb3.mono HB2.out.size))
  have HQ := Lib.hid hq
  have hv3 : ∃ g cap, v3 = .slice (some ⟨g, 0, none⟩) 1 cap := by
    rcases hq.2 with ⟨_, h0⟩ | ⟨g, cap, _, hv, _⟩
    · cases h0
    · exact ⟨g, cap, hv⟩
  clear c27 hw hq hb3
  obtain ⟨g3, cap3, rfl⟩ := hv3
  go_upto_region 16 with fail
  have hquo : IntKind.u16.wrap (IntKind.u16.wrap (IntKind.u16.wrap (r.g0.v.tdiv 256) * 256) + 77) = 77 + 256 * (r.g0.v / 256) := by
    rw [Int.tdiv_eq_ediv_of_nonneg ax0]
    simp only [IntKind.wrap_u16]
    omega
  have hrem : IntKind.u16.wrap (r.g0.v.tmod 256) = r.g0.v % 256 := by
    rw [Int.tmod_eq_emod_of_nonneg ax0]
    simp only [IntKind.wrap_u16]
    omega
  (try simp only [hquo, hrem])
  clear hquo hrem
  have HO4 := HO3.out.alloc (.cells #[.int .i64 1, .int .u16 r.g2.v, .int .u16 (77), .int .u16 0, .int .u16 0, .int .u16 0, .int .u16 0] 67)
  have hb4 := (Below.refl w3.heap.size w3).alloc (Nat.le_refl _) (.cells #[.int .i64 1, .int .u16 r.g2.v, .int .u16 (77), .int .u16 0, .int .u16 0, .int .u16 0, .int .u16 0] 67)
  have HB4 := Lib.hid (HB3.out.trans (hb4.mono HB3.out.size))
  have hrow := Row.new w3 #[.int .i64 1, .int .u16 r.g2.v, .int .u16 (77), .int .u16 0, .int .u16 0, .int .u16 0, .int .u16 0] 67
  have b0 := (hrow.cell 0).trans (show _ = some (Value.int .i64 (1)) from rfl)
  have e00 := ev_cells HQ.out 0 (Value.int .i64 (1)) rfl
  have e0 := (hb4.cell (World.block_lt_of_cell? _ _ e00)).trans e00
  have b1 := (hrow.cell 1).trans (show _ = some (Value.int .u16 (r.g2.v)) from rfl)
  have e10 := ev_cells HQ.out 1 (Value.int .u16 (r.g2.v)) rfl
  have e1 := (hb4.cell (World.block_lt_of_cell? _ _ e10)).trans e10
  have b2 := (hrow.cell 2).trans (show _ = some (Value.int .u16 (77)) from rfl)
  have e20 := ev_cells HQ.out 2 (Value.int .u16 (77)) rfl
  have e2 := (hb4.cell (World.block_lt_of_cell? _ _ e20)).trans e20
  have b3 := (hrow.cell 3).trans (show _ = some (Value.int .u16 (0)) from rfl)
  have e30 := ev_cells HQ.out 3 (Value.int .u16 (0)) rfl
  have e3 := (hb4.cell (World.block_lt_of_cell? _ _ e30)).trans e30
  have b4 := (hrow.cell 4).trans (show _ = some (Value.int .u16 (0)) from rfl)
  have e40 := ev_cells HQ.out 4 (Value.int .u16 (0)) rfl
  have e4 := (hb4.cell (World.block_lt_of_cell? _ _ e40)).trans e40
  have b5 := (hrow.cell 5).trans (show _ = some (Value.int .u16 (0)) from rfl)
  have e50 := ev_cells HQ.out 5 (Value.int .u16 (0)) rfl
  have e5 := (hb4.cell (World.block_lt_of_cell? _ _ e50)).trans e50
  have b6 := (hrow.cell 6).trans (show _ = some (Value.int .u16 (0)) from rfl)
  have e60 := ev_cells HQ.out 6 (Value.int .u16 (0)) rfl
  have e6 := (hb4.cell (World.block_lt_of_cell? _ _ e60)).trans e60
  have ca := (HO4.row.cell 0).trans (show _ = some (Value.int .u16 mm.r.g0.v) from rfl)
  rw [HP.out.2.1] at ca
  have eqe := eq_ev 1 r.g2.v (77) 0 0 0 0
  clear e00 e10 e20 e30 e40 e50 e60 hrow hb4
  generalize w3.alloc (.cells #[.int .i64 1, .int .u16 r.g2.v, .int .u16 (77), .int .u16 0, .int .u16 0, .int .u16 0, .int .u16 0] 67) = w4 at HO4 HB4 ca b0 b1 b2 b3 b4 b5 b6 e0 e1 e2 e3 e4 e5 e6 ⊢
  refine range_of (w4) ?_; intro S inst ω hin hout
  have rb0 := range_cell hin b0
  have re0 := range_cell hin e0
  have rb1 := range_cell hin b1
  have re1 := range_cell hin e1
  have rb2 := range_cell hin b2
  have re2 := range_cell hin e2
  have rb3 := range_cell hin b3
  have re3 := range_cell hin e3
  have rb4 := range_cell hin b4
  have re4 := range_cell hin e4
  have rb5 := range_cell hin b5
  have re5 := range_cell hin e5
  have rb6 := range_cell hin b6
  have re6 := range_cell hin e6
  have rc := range_cell hin ca
  have k1 := range_call hin hout awake_any
  have k2 := range_calls hin hout (fun w hw => (state_any w C lv2 _ (HO4.below hw)).mono (by rintro e w' ⟨rfl, rfl⟩; exact ⟨rfl, Below.refl _ _⟩))
  rw [HP.out.2.2] at k2
  clear b0 b1 b2 b3 b4 b5 b6 e0 e1 e2 e3 e4 e5 e6 ca HO4
  refine wp_region_range_lit ω (by kernel_rfl) (by kernel_rfl) (hout _ (Below.refl _ _).drew) ?_
  repeat (go_big_quiet_step (first | (with_reducible exact k1 _) | (with_reducible exact k2 _)))
  refine wpQuiet_nil ?_; intro _ hw'; obtain ⟨nq, rfl⟩ := hw'
  go_wp2_with fail
  go_ret
  exact ⟨rfl, HB4.out.trans ((hin nq).mono HB4.out.size)⟩

set_option maxRecDepth 100000 in
set_option maxHeartbeats 6400000 in
theorem cpuPorts_6 (r : Regs) (hr : r.wf) (p how : Int) (p0 : 0 ≤ p) (p1 : p ≤ 255) (hk : how % 8 = ((6 : Nat) : Int)) (w : World) :
    Calls Tryz.prog 8 #[r.val, .int .u8 p, .int .i64 how] w fun e w' => e = .returned (.bool true) ∧ Below w.heap.size w w' := by
  have m7 : bits .and .i64 how 7 = 6 := and_low how 6 7 hk (by decide)
  have m4 : bits .and .i64 how 4 = 4 := and_low how 6 4 hk (by decide)
  have m2 : bits .and .i64 how 2 = 2 := and_low how 6 2 hk (by decide)
  have m1 : bits .and .i64 how 1 = 0 := and_low how 6 1 hk (by decide)
  have ax0 := hr.g0.1
  have ax1 := hr.g0.2
  clear hk
  go_enter Tryz.func8, Tryz.ntmps8
  go_wp2_with fail
  have hrow := Row.new ((w.alloc (.cells r.cells 28)).alloc (.cells #[.int .u8 228, .int .u8 229, .int .u8 230, .int .u8 231, .int .u8 236, .int .u8 237, .int .u8 238, .int .u8 239] 5)) #[.int .u8 238, .int .u8 p] 5
  have hcell : ∀ k, k < [(238 : Int), p].length → (((w.alloc (.cells r.cells 28)).alloc (.cells #[.int .u8 228, .int .u8 229, .int .u8 230, .int .u8 231, .int .u8 236, .int .u8 237, .int .u8 238, .int .u8 239] 5)).alloc (.cells #[.int .u8 238, .int .u8 p] 5)).cell? ⟨w.heap.size + 1 + 1, k, none⟩ = some (.int .u8 ([(238 : Int), p].getD k 0)) := by
    intro k hk
    have := hrow.cell k
    simp only [World.size_alloc] at this
    rw [this]
    match k, hk with
    | 0, _ | 1, _ => rfl
    | k + 2, h => simp at h; omega
  have hlt : w.heap.size + 1 + 1 < (((w.alloc (.cells r.cells 28)).alloc (.cells #[.int .u8 228, .int .u8 229, .int .u8 230, .int .u8 231, .int .u8 236, .int .u8 237, .int .u8 238, .int .u8 239] 5)).alloc (.cells #[.int .u8 238, .int .u8 p] 5)).heap.size := by
    simp
  have hbw : Below w.heap.size w (((w.alloc (.cells r.cells 28)).alloc (.cells #[.int .u8 228, .int .u8 229, .int .u8 230, .int .u8 231, .int .u8 236, .int .u8 237, .int .u8 238, .int .u8 239] 5)).alloc (.cells #[.int .u8 238, .int .u8 p] 5)) :=
    (((Below.refl w.heap.size w).alloc (Nat.le_refl _) _).alloc (by simp) _).alloc (by simp; omega) _
  have bwf : ∀ k, 0 ≤ [(238 : Int), p].getD k 0 ∧ [(238 : Int), p].getD k 0 ≤ 255 := by
    intro k
    match k with
    | 0 => exact ⟨by show (0 : Int) ≤ 238; decide, by show (238 : Int) ≤ 255; decide⟩
    | 1 => exact ⟨p0, p1⟩
    | k + 2 => simp
  refine (begin_any _ r hr (w.heap.size + 1 + 1) 2 [238, p] hlt hcell bwf (by simp)).mono ?_
  clear hcell hlt hrow bwf
  generalize (((w.alloc (.cells r.cells 28)).alloc (.cells #[.int .u8 228, .int .u8 229, .int .u8 230, .int .u8 231, .int .u8 236, .int .u8 237, .int .u8 238, .int .u8 239] 5)).alloc (.cells #[.int .u8 238, .int .u8 p] 5)) = W0 at hbw ⊢
  rintro e w1 ⟨C, lv, rfl, ho, hb1, hn⟩; dsimp only
  have HO1 := Lib.hid ho
  have HB1 := Lib.hid (hbw.trans (hb1.mono hbw.size))
  have HN := Lib.hid (fun k (hk : k < w.heap.size) => hn k (Nat.lt_of_lt_of_le hk hbw.size))
  clear ho hb1 hn hbw
  have c0 : w1.cell? ⟨C.b, 0, none⟩ = some (.int .u16 r.g0.v) := (HO1.out.row.cell 0).trans rfl
  have c4 : w1.cell? ⟨C.b, 4, none⟩ = some (.int .u16 r.g2.v) := (HO1.out.row.cell 4).trans rfl
  go_wp2_with fail
  refine (pm_step6 hr C p p0 p1 _ _ HO1.out).mono ?_
  rintro e w2 ⟨rfl, lv2, h2, f2, k2⟩; dsimp only
  have HP := Lib.hid ((pm_says r p).2.2.2.2.2.2.1)
  generalize pm r p 6 = mm at h2 HP
  have HO2 := Lib.hid h2
  have HA2 := Lib.hid (show Acc C lv w1 lv2 w2 from ⟨f2, k2⟩)
  have HB2 := Lib.hid (below_step HB1.out f2 HN.out)
  clear h2 f2 k2 c0 c4
  have c27 : w2.cell? ⟨C.b, 27, none⟩ = some (.pointer (some ⟨C.wb, 0, none⟩)) := (HO2.out.row.cell 27).trans (mcell27 C _)
  go_wp2_with fail
  have hw := HO2.out.wor
  rw [HP.out.1] at hw
  refine (events_any _ _ _ _ _ hw).mono ?_
  rintro e w3 ⟨v3, rfl, hq, hb3⟩; dsimp only
  have HO3 := Lib.hid (HO2.out.below hb3)
  have HB3 := Lib.hid (HB2.out.trans (hb3.mono HB2.out.size))
  have HQ := Lib.hid hq
  have hv3 : ∃ g cap, v3 = .slice (some ⟨g, 0, none⟩) 1 cap := by
    rcases hq.2 with ⟨_, h0⟩ | ⟨g, cap, _, hv, _⟩
    · cases h0
    · exact ⟨g, cap, hv⟩
  clear c27 hw hq hb3
  obtain ⟨g3, cap3, rfl⟩ := hv3
  go_upto_region 16 with fail
  have hquo : IntKind.u16.wrap (IntKind.u16.wrap (IntKind.u16.wrap (r.g0.v.tdiv 256) * 256) + 77) = 77 + 256 * (r.g0.v / 256) := by
    rw [Int.tdiv_eq_ediv_of_nonneg ax0]
    simp only [IntKind.wrap_u16]
    omega
  have hrem : IntKind.u16.wrap (r.g0.v.tmod 256) = r.g0.v % 256 := by
    rw [Int.tmod_eq_emod_of_nonneg ax0]
    simp only [IntKind.wrap_u16]
    omega
  (try simp only [hquo, hrem])
  clear hquo hrem
  have HO4 := HO3.out.alloc (.cells #[.int .i64 2, .int .u16 r.g2.v, .int .u16 (r.g0.v % 256), .int .u16 0, .int .u16 0, .int .u16 0, .int .u16 0] 67)
  have hb4 := (Below.refl w3.heap.size w3).alloc (Nat.le_refl _) (.cells #[.int .i64 2, .int .u16 r.g2.v, .int .u16 (r.g0.v % 256), .int .u16 0, .int .u16 0, .int .u16 0, .int .u16 0] 67)
  have HB4 := Lib.hid (HB3.out.trans (hb4.mono HB3.out.size))
  have hrow := Row.new w3 #[.int .i64 2, .int .u16 r.g2.v, .int .u16 (r.g0.v % 256), .int .u16 0, .int .u16 0, .int .u16 0, .int .u16 0] 67
  have b0 := (hrow.cell 0).trans (show _ = some (Value.int .i64 (2)) from rfl)
  have e00 := ev_cells HQ.out 0 (Value.int .i64 (2)) rfl
  have e0 := (hb4.cell (World.block_lt_of_cell? _ _ e00)).trans e00
  have b1 := (hrow.cell 1).trans (show _ = some (Value.int .u16 (r.g2.v)) from rfl)
  have e10 := ev_cells HQ.out 1 (Value.int .u16 (r.g2.v)) rfl
  have e1 := (hb4.cell (World.block_lt_of_cell? _ _ e10)).trans e10
  have b2 := (hrow.cell 2).trans (show _ = some (Value.int .u16 (r.g0.v % 256)) from rfl)
  have e20 := ev_cells HQ.out 2 (Value.int .u16 (r.g0.v % 256)) rfl
  have e2 := (hb4.cell (World.block_lt_of_cell? _ _ e20)).trans e20
  have b3 := (hrow.cell 3).trans (show _ = some (Value.int .u16 (0)) from rfl)
  have e30 := ev_cells HQ.out 3 (Value.int .u16 (0)) rfl
  have e3 := (hb4.cell (World.block_lt_of_cell? _ _ e30)).trans e30
  have b4 := (hrow.cell 4).trans (show _ = some (Value.int .u16 (0)) from rfl)
  have e40 := ev_cells HQ.out 4 (Value.int .u16 (0)) rfl
  have e4 := (hb4.cell (World.block_lt_of_cell? _ _ e40)).trans e40
  have b5 := (hrow.cell 5).trans (show _ = some (Value.int .u16 (0)) from rfl)
  have e50 := ev_cells HQ.out 5 (Value.int .u16 (0)) rfl
  have e5 := (hb4.cell (World.block_lt_of_cell? _ _ e50)).trans e50
  have b6 := (hrow.cell 6).trans (show _ = some (Value.int .u16 (0)) from rfl)
  have e60 := ev_cells HQ.out 6 (Value.int .u16 (0)) rfl
  have e6 := (hb4.cell (World.block_lt_of_cell? _ _ e60)).trans e60
  have ca := (HO4.row.cell 0).trans (show _ = some (Value.int .u16 mm.r.g0.v) from rfl)
  rw [HP.out.2.1] at ca
  have eqe := eq_ev 2 r.g2.v (r.g0.v % 256) 0 0 0 0
  clear e00 e10 e20 e30 e40 e50 e60 hrow hb4
  generalize w3.alloc (.cells #[.int .i64 2, .int .u16 r.g2.v, .int .u16 (r.g0.v % 256), .int .u16 0, .int .u16 0, .int .u16 0, .int .u16 0] 67) = w4 at HO4 HB4 ca b0 b1 b2 b3 b4 b5 b6 e0 e1 e2 e3 e4 e5 e6 ⊢
  refine range_of (w4) ?_; intro S inst ω hin hout
  have rb0 := range_cell hin b0
  have re0 := range_cell hin e0
  have rb1 := range_cell hin b1
  have re1 := range_cell hin e1
  have rb2 := range_cell hin b2
  have re2 := range_cell hin e2
  have rb3 := range_cell hin b3
  have re3 := range_cell hin e3
  have rb4 := range_cell hin b4
  have re4 := range_cell hin e4
  have rb5 := range_cell hin b5
  have re5 := range_cell hin e5
  have rb6 := range_cell hin b6
  have re6 := range_cell hin e6
  have rc := range_cell hin ca
  have k1 := range_call hin hout awake_any
  have k2 := range_calls hin hout (fun w hw => (state_any w C lv2 _ (HO4.below hw)).mono (by rintro e w' ⟨rfl, rfl⟩; exact ⟨rfl, Below.refl _ _⟩))
  rw [HP.out.2.2] at k2
  clear b0 b1 b2 b3 b4 b5 b6 e0 e1 e2 e3 e4 e5 e6 ca HO4
  refine wp_region_range_lit ω (by kernel_rfl) (by kernel_rfl) (hout _ (Below.refl _ _).drew) ?_
  repeat (go_big_quiet_step (first | (with_reducible exact k1 _) | (with_reducible exact k2 _)))
  refine wpQuiet_nil ?_; intro _ hw'; obtain ⟨nq, rfl⟩ := hw'
  go_wp2_with fail
  go_ret
  exact ⟨rfl, HB4.out.trans ((hin nq).mono HB4.out.size)⟩

set_option maxRecDepth 100000 in
set_option maxHeartbeats 6400000 in
theorem cpuPorts_7 (r : Regs) (hr : r.wf) (p how : Int) (p0 : 0 ≤ p) (p1 : p ≤ 255) (hk : how % 8 = ((7 : Nat) : Int)) (w : World) :
    Calls Tryz.prog 8 #[r.val, .int .u8 p, .int .i64 how] w fun e w' => e = .returned (.bool true) ∧ Below w.heap.size w w' := by
  have m7 : bits .and .i64 how 7 = 7 := and_low how 7 7 hk (by decide)
  have m4 : bits .and .i64 how 4 = 4 := and_low how 7 4 hk (by decide)
  have m2 : bits .and .i64 how 2 = 2 := and_low how 7 2 hk (by decide)
  have m1 : bits .and .i64 how 1 = 1 := and_low how 7 1 hk (by decide)
  have ax0 := hr.g0.1
  have ax1 := hr.g0.2
  clear hk
  go_enter Tryz.func8, Tryz.ntmps8
  go_wp2_with fail
  have hrow := Row.new ((w.alloc (.cells r.cells 28)).alloc (.cells #[.int .u8 228, .int .u8 229, .int .u8 230, .int .u8 231, .int .u8 236, .int .u8 237, .int .u8 238, .int .u8 239] 5)) #[.int .u8 239, .int .u8 p] 5
  have hcell : ∀ k, k < [(239 : Int), p].length → (((w.alloc (.cells r.cells 28)).alloc (.cells #[.int .u8 228, .int .u8 229, .int .u8 230, .int .u8 231, .int .u8 236, .int .u8 237, .int .u8 238, .int .u8 239] 5)).alloc (.cells #[.int .u8 239, .int .u8 p] 5)).cell? ⟨w.heap.size + 1 + 1, k, none⟩ = some (.int .u8 ([(239 : Int), p].getD k 0)) := by
    intro k hk
    have := hrow.cell k
    simp only [World.size_alloc] at this
    rw [this]
    match k, hk with
    | 0, _ | 1, _ => rfl
    | k + 2, h => simp at h; omega
  have hlt : w.heap.size + 1 + 1 < (((w.alloc (.cells r.cells 28)).alloc (.cells #[.int .u8 228, .int .u8 229, .int .u8 230, .int .u8 231, .int .u8 236, .int .u8 237, .int .u8 238, .int .u8 239] 5)).alloc (.cells #[.int .u8 239, .int .u8 p] 5)).heap.size := by
    simp
  have hbw : Below w.heap.size w (((w.alloc (.cells r.cells 28)).alloc (.cells #[.int .u8 228, .int .u8 229, .int .u8 230, .int .u8 231, .int .u8 236, .int .u8 237, .int .u8 238, .int .u8 239] 5)).alloc (.cells #[.int .u8 239, .int .u8 p] 5)) :=
    (((Below.refl w.heap.size w).alloc (Nat.le_refl _) _).alloc (by simp) _).alloc (by simp; omega) _
  have bwf : ∀ k, 0 ≤ [(239 : Int), p].getD k 0 ∧ [(239 : Int), p].getD k 0 ≤ 255 := by
    intro k
    match k with
    | 0 => exact ⟨by show (0 : Int) ≤ 239; decide, by show (239 : Int) ≤ 255; decide⟩
    | 1 => exact ⟨p0, p1⟩
    | k + 2 => simp
  refine (begin_any _ r hr (w.heap.size + 1 + 1) 2 [239, p] hlt hcell bwf (by simp)).mono ?_
  clear hcell hlt hrow bwf
  generalize (((w.alloc (.cells r.cells 28)).alloc (.cells #[.int .u8 228, .int .u8 229, .int .u8 230, .int .u8 231, .int .u8 236, .int .u8 237, .int .u8 238, .int .u8 239] 5)).alloc (.cells #[.int .u8 239, .int .u8 p] 5)) = W0 at hbw ⊢
  rintro e w1 ⟨C, lv, rfl, ho, hb1, hn⟩; dsimp only
  have HO1 := Lib.hid ho
  have HB1 := Lib.hid (hbw.trans (hb1.mono hbw.size))
  have HN := Lib.hid (fun k (hk : k < w.heap.size) => hn k (Nat.lt_of_lt_of_le hk hbw.size))
  clear ho hb1 hn hbw
  have c0 : w1.cell? ⟨C.b, 0, none⟩ = some (.int .u16 r.g0.v) := (HO1.out.row.cell 0).trans rfl
  have c4 : w1.cell? ⟨C.b, 4, none⟩ = some (.int .u16 r.g2.v) := (HO1.out.row.cell 4).trans rfl
  go_wp2_with fail
  refine (pm_step7 hr C p p0 p1 _ _ HO1.out).mono ?_
  rintro e w2 ⟨rfl, lv2, h2, f2, k2⟩; dsimp only
  have HP := Lib.hid ((pm_says r p).2.2.2.2.2.2.2)
  generalize pm r p 7 = mm at h2 HP
  have HO2 := Lib.hid h2
  have HA2 := Lib.hid (show Acc C lv w1 lv2 w2 from ⟨f2, k2⟩)
  have HB2 := Lib.hid (below_step HB1.out f2 HN.out)
  clear h2 f2 k2 c0 c4
  have c27 : w2.cell? ⟨C.b, 27, none⟩ = some (.pointer (some ⟨C.wb, 0, none⟩)) := (HO2.out.row.cell 27).trans (mcell27 C _)
  go_wp2_with fail
  have hw := HO2.out.wor
  rw [HP.out.1] at hw
  refine (events_any _ _ _ _ _ hw).mono ?_
  rintro e w3 ⟨v3, rfl, hq, hb3⟩; dsimp only
  have HO3 := Lib.hid (HO2.out.below hb3)
  have HB3 := Lib.hid (HB2.out.trans (hb3.mono HB2.out.size))
  have HQ := Lib.hid hq
  have hv3 : ∃ g cap, v3 = .slice (some ⟨g, 0, none⟩) 1 cap := by
    rcases hq.2 with ⟨_, h0⟩ | ⟨g, cap, _, hv, _⟩
    · cases h0
    · exact ⟨g, cap, hv⟩
  clear c27 hw hq hb3
  obtain ⟨g3, cap3, rfl⟩ := hv3
  go_upto_region 16 with fail
  have hquo : IntKind.u16.wrap (IntKind.u16.wrap (IntKind.u16.wrap (r.g0.v.tdiv 256) * 256) + 77) = 77 + 256 * (r.g0.v / 256) := by
    rw [Int.tdiv_eq_ediv_of_nonneg ax0]
    simp only [IntKind.wrap_u16]
    omega
  have hrem : IntKind.u16.wrap (r.g0.v.tmod 256) = r.g0.v % 256 := by
    rw [Int.tmod_eq_emod_of_nonneg ax0]
    simp only [IntKind.wrap_u16]
    omega
  (try simp only [hquo, hrem])
  clear hquo hrem
  have HO4 := HO3.out.alloc (.cells #[.int .i64 2, .int .u16 r.g2.v, .int .u16 (r.g0.v), .int .u16 0, .int .u16 0, .int .u16 0, .int .u16 0] 67)
  have hb4 := (Below.refl w3.heap.size w3).alloc (Nat.le_refl _) (.cells #[.int .i64 2, .int .u16 r.g2.v, .int .u16 (r.g0.v), .int .u16 0, .int .u16 0, .int .u16 0, .int .u16 0] 67)
  have HB4 := Lib.hid (HB3.out.trans (hb4.mono HB3.out.size))
  have hrow := Row.new w3 #[.int .i64 2, .int .u16 r.g2.v, .int .u16 (r.g0.v), .int .u16 0, .int .u16 0, .int .u16 0, .int .u16 0] 67
  have b0 := (hrow.cell 0).trans (show _ = some (Value.int .i64 (2)) from rfl)
  have e00 := ev_cells HQ.out 0 (Value.int .i64 (2)) rfl
  have e0 := (hb4.cell (World.block_lt_of_cell? _ _ e00)).trans e00
  have b1 := (hrow.cell 1).trans (show _ = some (Value.int .u16 (r.g2.v)) from rfl)
  have e10 := ev_cells HQ.out 1 (Value.int .u16 (r.g2.v)) rfl
  have e1 := (hb4.cell (World.block_lt_of_cell? _ _ e10)).trans e10
  have b2 := (hrow.cell 2).trans (show _ = some (Value.int .u16 (r.g0.v)) from rfl)
  have e20 := ev_cells HQ.out 2 (Value.int .u16 (r.g0.v)) rfl
  have e2 := (hb4.cell (World.block_lt_of_cell? _ _ e20)).trans e20
  have b3 := (hrow.cell 3).trans (show _ = some (Value.int .u16 (0)) from rfl)
  have e30 := ev_cells HQ.out 3 (Value.int .u16 (0)) rfl
  have e3 := (hb4.cell (World.block_lt_of_cell? _ _ e30)).trans e30
  have b4 := (hrow.cell 4).trans (show _ = some (Value.int .u16 (0)) from rfl)
  have e40 := ev_cells HQ.out 4 (Value.int .u16 (0)) rfl
  have e4 := (hb4.cell (World.block_lt_of_cell? _ _ e40)).trans e40
  have b5 := (hrow.cell 5).trans (show _ = some (Value.int .u16 (0)) from rfl)
  have e50 := ev_cells HQ.out 5 (Value.int .u16 (0)) rfl
  have e5 := (hb4.cell (World.block_lt_of_cell? _ _ e50)).trans e50
  have b6 := (hrow.cell 6).trans (show _ = some (Value.int .u16 (0)) from rfl)
  have e60 := ev_cells HQ.out 6 (Value.int .u16 (0)) rfl
  have e6 := (hb4.cell (World.block_lt_of_cell? _ _ e60)).trans e60
  have ca := (HO4.row.cell 0).trans (show _ = some (Value.int .u16 mm.r.g0.v) from rfl)
  rw [HP.out.2.1] at ca
  have eqe := eq_ev 2 r.g2.v (r.g0.v) 0 0 0 0
  clear e00 e10 e20 e30 e40 e50 e60 hrow hb4
  generalize w3.alloc (.cells #[.int .i64 2, .int .u16 r.g2.v, .int .u16 (r.g0.v), .int .u16 0, .int .u16 0, .int .u16 0, .int .u16 0] 67) = w4 at HO4 HB4 ca b0 b1 b2 b3 b4 b5 b6 e0 e1 e2 e3 e4 e5 e6 ⊢
  refine range_of (w4) ?_; intro S inst ω hin hout
  have rb0 := range_cell hin b0
  have re0 := range_cell hin e0
  have rb1 := range_cell hin b1
  have re1 := range_cell hin e1
  have rb2 := range_cell hin b2
  have re2 := range_cell hin e2
  have rb3 := range_cell hin b3
  have re3 := range_cell hin e3
  have rb4 := range_cell hin b4
  have re4 := range_cell hin e4
  have rb5 := range_cell hin b5
  have re5 := range_cell hin e5
  have rb6 := range_cell hin b6
  have re6 := range_cell hin e6
  have rc := range_cell hin ca
  have k1 := range_call hin hout awake_any
  have k2 := range_calls hin hout (fun w hw => (state_any w C lv2 _ (HO4.below hw)).mono (by rintro e w' ⟨rfl, rfl⟩; exact ⟨rfl, Below.refl _ _⟩))
  rw [HP.out.2.2] at k2
  clear b0 b1 b2 b3 b4 b5 b6 e0 e1 e2 e3 e4 e5 e6 ca HO4
  refine wp_region_range_lit ω (by kernel_rfl) (by kernel_rfl) (hout _ (Below.refl _ _).drew) ?_
  repeat (go_big_quiet_step (first | (with_reducible exact k1 _) | (with_reducible exact k2 _)))
  refine wpQuiet_nil ?_; intro _ hw'; obtain ⟨nq, rfl⟩ := hw'
  go_wp2_with fail
  go_ret
  exact ⟨rfl, HB4.out.trans ((hin nq).mono HB4.out.size)⟩

theorem cpuPorts_any (r : Regs) (hr : r.wf) (p how : Int) (p0 : 0 ≤ p) (p1 : p ≤ 255) (w : World) :
    Calls Tryz.prog 8 #[r.val, .int .u8 p, .int .i64 how] w fun e w' => e = .returned (.bool true) ∧ Below w.heap.size w w' := by
  have h : how % 8 = ((0 : Nat) : Int) ∨ how % 8 = ((1 : Nat) : Int) ∨ how % 8 = ((2 : Nat) : Int) ∨ how % 8 = ((3 : Nat) : Int) ∨ how % 8 = ((4 : Nat) : Int) ∨ how % 8 = ((5 : Nat) : Int) ∨ how % 8 = ((6 : Nat) : Int) ∨ how % 8 = ((7 : Nat) : Int) := by omega
  rcases h with h | h | h | h | h | h | h | h
  · exact cpuPorts_0 r hr p how p0 p1 h w
  · exact cpuPorts_1 r hr p how p0 p1 h w
  · exact cpuPorts_2 r hr p how p0 p1 h w
  · exact cpuPorts_3 r hr p how p0 p1 h w
  · exact cpuPorts_4 r hr p how p0 p1 h w
  · exact cpuPorts_5 r hr p how p0 p1 h w
  · exact cpuPorts_6 r hr p how p0 p1 h w
  · exact cpuPorts_7 r hr p how p0 p1 h w
end Go.Proofs.YtcglkefaopgjeaaGreatDoor

/- CpuPorts: for every input the law returns true, and its arguments read as before; conditions: hansom/addr.bases holds its own text. -/
namespace Go.Proofs.YtcglkefaopgjeaaGreatDoor.cpuPorts
set_option linter.unusedSimpArgs false
set_option linter.unusedVariables false
open Go.ChangeShapes Go.WideShapes Go.ChangeAt Go.RowKit

theorem walk (R0 : Regs) (w0 : R0.wf) (a1 : Int) (w1 : (Lit.int .u8 a1).wf = true) (a2 : Int) (w2 : (Lit.int .i64 a2).wf = true) (w : World) :
    Calls Tryz.prog 8 #[R0.val, .int .u8 a1, .int .i64 a2] w fun e w' => e = .returned (.bool true) ∧ Below w.heap.size w w' := by
  have hp : (0 : Int) ≤ a1 ∧ a1 ≤ 255 := by
    have h := w1
    simp only [Lit.wf, Bool.and_eq_true, decide_eq_true_eq] at h
    exact h
  exact cpuPorts_any R0 w0 a1 a2 hp.1 hp.2 w

set_option maxRecDepth 100000 in
theorem lifted (os : Os) (started : os.Started) (H : Type) (enc : TypeId × Value → H) :
    ReturnsInHanded {} Tryz.checked os 8 .any (fun w args => (Rows.cpuPortsSpec.pre enc Tryz.prog Tryz.f8 [] false w args ∧ laidMetH Tryz.prog [("hansom/addr.bases", Rows.laid_hansom_addr_bases)] w) ∧ sizedMet enc Tryz.prog Tryz.f8 (OpenSpec.ofChange Rows.cpuPortsSpec) false w args)
      (Rows.cpuPortsSpec.post enc Tryz.prog Tryz.f8 false true false false) := by
  refine returnsInHanded_of_change_and (C := Tryz.checked) (X := fun w _ => laidMetH Tryz.prog [("hansom/addr.bases", Rows.laid_hansom_addr_bases)] w) (fun _ _ _ hh h => h.of_heap hh) own started (by kernel_rfl) Tryz.func8
    (ChangeSpec.witness_shaped (enc := enc) (C := Tryz.checked) (os := os) (X := fun w _ => laidMetH Tryz.prog [("hansom/addr.bases", Rows.laid_hansom_addr_bases)] w) false (World.doorLaid Tryz.prog 4000 os) #[zeroRegs.val, .int .u8 0, .int .i64 0] 8 rfl (World.shaped_of_RefB (by kernel_rfl) (by kernel_rfl)) (by kernel_rfl) (by kernel_rfl) (by kernel_rfl) (door_met os _)) ?_
  intro W base args ds gs before hval0 hW _ _ hL _
  have hval : ∀ (j : Nat) t v, Tryz.f8.params[j]? = some t → args[j]? = some v → Value.okWide Tryz.prog W .any base t v := hval0
  have hW' := hW
  obtain ⟨p, q, hA0, hV, rfl, hfz, hnd⟩ := hW
  have hA : DataW.TrodAll enc Tryz.prog W 0 (fun _ => true) true Tryz.f8.params.toList args.toList ds p := hA0
  rw [Tryz.params8] at hA hval
  obtain ⟨v0, vs0, d0, ds0, p0, q0, hargs, rfl, rfl, h0, r0⟩ := trodAll_cons hA
  obtain ⟨v1, vs1, d1, ds1, p1, q1, rfl, rfl, rfl, h1, r1⟩ := trodAll_cons r0
  obtain ⟨v2, vs2, d2, ds2, p2, q2, rfl, rfl, rfl, h2, r2⟩ := trodAll_cons r1
  obtain ⟨rfl, rfl, rfl⟩ := trodAll_nil r2
  obtain rfl : args = #[v0, v1, v2] := by cases args; simp_all
  obtain ⟨rfl, rfl⟩ := trodVars_none hV
  obtain ⟨R0, rfl, w0, rfl⟩ := open_regs (hval 0 _ v0 rfl rfl) h0
  obtain ⟨a1, rfl, rfl, rfl, w1⟩ := open_int Tryz.underlying5 (hval 1 _ v1 rfl rfl) h1
  obtain ⟨a2, rfl, rfl, rfl, w2⟩ := open_int Tryz.underlying3 (hval 2 _ v2 rfl rfl) h2
  clear hA0 hval0
  simp only [List.append_nil] at hW'
  refine (walk R0 w0 a1 w1 a2 w2 W).mono fun e W' ⟨he, hg⟩ => ?_
  subst he
  exact ⟨_, rfl, _, _, _, [], [], [], hW', trodAll_cons_mk (shut_bool Tryz.underlying4 _) trodAll_mk0, (trodAll_cons_mk (regs_stays h0) (trodAll_cons_mk (shut_int Tryz.underlying5 w1) (trodAll_cons_mk (shut_int Tryz.underlying3 w2) trodAll_mk0))), rfl, hg.frame _, fun h => by cases h⟩

theorem row_holds : Rows.CpuPortsSaid :=
  OpenClaim.holds_of_wide 8 Tryz.f8 rfl rfl rfl rfl rfl rfl rfl ⟨rfl, rfl, rfl, rfl, rfl⟩ rfl rfl rfl rfl rfl (by kernel_rfl) Tryz.func8 (by kernel_rfl)
    (of_decide_eq_true (by kernel_rfl)) (by unfold Func.isWrapper; first | (rw [if_pos (by decide +kernel)]; kernel_rfl) | (rw [if_neg (by decide +kernel)]; exact ⟨rfl, rfl⟩))
    (fun os started H enc _ => lifted os started H enc)
end Go.Proofs.YtcglkefaopgjeaaGreatDoor.cpuPorts
