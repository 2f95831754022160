/- What is pushed is popped: plain laws of the machine that the law's own begin makes. -/
import Derived.Test.YtcglkefaopgjeaaDoorEA
import Derived.Test.YtcglkefaopgjeaaDoorG3
namespace Go.Proofs.YtcglkefaopgjeaaDoor
set_option linter.unusedSimpArgs false
set_option linter.unusedVariables false
open Go.RowKit

theorem lin256 (k : Nat) (h : k ≤ 65535) : lin 256 (k : Int) = 4096 + k := by unfold lin; omega
theorem succW_nat (k : Nat) (h : k < 65535) : succW (k : Int) = ((k + 1 : Nat) : Int) := by unfold succW; rw [IntKind.wrap_u16]; omega
theorem own256 (m : Mach) (hb : m.base = 4096) (hz : m.size = 65536) (k : Nat) (h : k ≤ 65535) : m.own1 ⟨256, true⟩ (k : Int) = true := by
  unfold Mach.own1
  rw [show (⟨256, true⟩ : V).v = 256 from rfl, lin256 k h, hb, hz]
  simp
  omega
theorem owns256 (m : Mach) (hb : m.base = 4096) (hz : m.size = 65536) (k : Nat) (h : k < 65535) : m.owns ⟨256, true⟩ (k : Int) 2 = true := by
  have e0 : IntKind.u16.wrap ((k : Int) + ((0 : Nat) : Int)) = (k : Int) := by rw [IntKind.wrap_u16]; omega
  have e1 : IntKind.u16.wrap ((k : Int) + ((1 : Nat) : Int)) = ((k + 1 : Nat) : Int) := by rw [IntKind.wrap_u16]; omega
  rw [Mach.owns, Mach.owns, Mach.owns, e0, e1, own256 m hb hz k (by omega), own256 m hb hz (k + 1) (by omega)]
  rfl

theorem setF_lo (f : Nat → Int) (x : Nat) (v : Int) : setF f x (x + 1) v x = v % 256 := by simp [setF, upd]
theorem setF_hi (f : Nat → Int) (x : Nat) (v : Int) : setF f x (x + 1) v (x + 1) = v / 256 := by simp [setF, upd]
theorem setF_no (f : Nat → Int) (x k : Nat) (v : Int) (h : k ≠ x) (h' : k ≠ x + 1) : setF f x (x + 1) v k = f k := by simp [setF, upd, h, h']
theorem setT_lo (f : Nat → Int) (x : Nat) (b : Bool) : setT f x (x + 1) b x = if b then 1 else 0 := by cases b <;> simp [setT, upd]
theorem setT_hi (f : Nat → Int) (x : Nat) (b : Bool) : setT f x (x + 1) b (x + 1) = if b then 2 else 0 := by cases b <;> simp [setT, upd]
theorem setT_no (f : Nat → Int) (x k : Nat) (b : Bool) (h : k ≠ x) (h' : k ≠ x + 1) : setT f x (x + 1) b k = f k := by cases b <;> simp [setT, upd, h, h']

/-- A word is pushed where there is room. -/
theorem push_ok (m : Mach) (k : Nat) (h : k < 65000) (hg : m.r.g4 = ⟨((k + 2 : Nat) : Int), false⟩) (hs : m.r.s2 = ⟨256, true⟩) (hb : m.base = 4096) (hz : m.size = 65536) (t0 : m.tag (4096 + k) = 0) (t1 : m.tag (4096 + k + 1) = 0) (v : V) :
    m.push v = { m with r := m.r.put 4 ⟨(k : Int), false⟩, mem := setF m.mem (4096 + k) (4096 + k + 1) v.v, tag := setT m.tag (4096 + k) (4096 + k + 1) v.t } := by
  have e1 : m.plain m.r.g4 = m := by rw [hg]; rfl
  have e2 : IntKind.u16.wrap (m.r.g4.v - 2) = (k : Int) := by rw [hg, IntKind.wrap_u16]; show (((k + 2 : Nat) : Int) - 2) % 65536 = _; omega
  have e3 : m.setWordOk m.r.s2 (k : Int) v = true := by
    rw [hs, Mach.setWordOk, owns256 m hb hz k (by omega), Mach.wordC, show (⟨256, true⟩ : V).v = 256 from rfl, lin256 k (by omega), succW_nat k (by omega), lin256 (k + 1) (by omega), mwordC, mwordT]
    rw [show 4096 + (k + 1) = 4096 + k + 1 from rfl, t0, t1]
    have : ((k : Int) == 65535) = false := by rw [beq_eq_false_iff_ne]; omega
    rw [this]
    simp
  unfold Mach.push
  dsimp only
  rw [e1, e2, Mach.setWord, if_pos e3, Mach.putWord, hs, show (⟨256, true⟩ : V).v = 256 from rfl, lin256 k (by omega), succW_nat k (by omega), lin256 (k + 1) (by omega)]
  rfl

/-- A word is popped where one stands. -/
theorem pop_ok (m : Mach) (k : Nat) (h : k < 65000) (hg : m.r.g4 = ⟨(k : Int), false⟩) (hs : m.r.s2 = ⟨256, true⟩) (hb : m.base = 4096) (hz : m.size = 65536) (v : V) (f0 : m.mem (4096 + k) = v.v % 256) (f1 : m.mem (4096 + k + 1) = v.v / 256)
    (t0 : m.tag (4096 + k) = if v.t then 1 else 0) (t1 : m.tag (4096 + k + 1) = if v.t then 2 else 0) :
    m.popV = v ∧ m.popM = { m with r := m.r.put 4 ⟨((k + 2 : Nat) : Int), false⟩ } := by
  have e1 : m.plain m.r.g4 = m := by rw [hg]; rfl
  have e2 : m.r.g4.v = (k : Int) := by rw [hg]
  have e3 : IntKind.u16.wrap ((k : Int) + 2) = ((k + 2 : Nat) : Int) := by rw [IntKind.wrap_u16]; omega
  have ew : mwordV m.mem m.tag (4096 + k) (4096 + k + 1) = v := by
    obtain ⟨vv, vt⟩ := v
    show (⟨m.mem (4096 + k) + 256 * m.mem (4096 + k + 1), mwordT m.tag (4096 + k) (4096 + k + 1)⟩ : V) = _
    rw [f0, f1, mwordT, t0, t1]
    cases vt
    · simp; omega
    · simp; omega
  have ec : mwordC m.tag (4096 + k) (4096 + k + 1) = true := by
    rw [mwordC, mwordT, t0, t1]; cases v.t <;> rfl
  have hl : lin m.r.s2.v (k : Int) = 4096 + k := by rw [hs]; exact lin256 k (by omega)
  have hl' : lin m.r.s2.v (succW (k : Int)) = 4096 + k + 1 := by rw [hs, succW_nat k (by omega)]; exact lin256 (k + 1) (by omega)
  constructor
  · unfold Mach.popV Mach.wordV
    rw [e1, e2, hl, hl', ew]
  · unfold Mach.popM Mach.wordS Mach.wordOk Mach.wordC
    rw [e1, e2, hl, hl', ec, e3, hs, owns256 m hb hz k (by omega)]
    rfl

/-- A near call and its return. -/
theorem near_back (r : Regs) (k : Nat) (h : k < 65000) (hg : r.g4.v = ((k + 2 : Nat) : Int)) (hip : 0 ≤ r.ip ∧ r.ip ≤ 65535) (n n' : Int) :
    ((begun r).callN n).r = { beginR r with g4 := ⟨(k : Int), false⟩, ip := IntKind.u16.wrap (r.ip + n) } ∧
    (((begun r).callN n).back false n').r = { beginR r with g4 := ⟨IntKind.u16.wrap (((k + 2 : Nat) : Int) + n'), false⟩ } ∧ (((begun r).callN n).back false n').state = 0 := by
  have hg4 : (begun r).r.g4 = ⟨((k + 2 : Nat) : Int), false⟩ := by show (⟨r.g4.v, false⟩ : V) = _; rw [hg]
  have hp := push_ok (begun r) k h hg4 rfl rfl rfl rfl rfl ⟨(begun r).r.ip, false⟩
  have e1 : (begun r).callN n = { begun r with r := { beginR r with g4 := ⟨(k : Int), false⟩, ip := IntKind.u16.wrap (r.ip + n) }, mem := setF (fun _ => 0) (4096 + k) (4096 + k + 1) r.ip, tag := setT (fun _ => 0) (4096 + k) (4096 + k + 1) false } := by
    unfold Mach.callN
    rw [hp]
    rfl
  refine ⟨by rw [e1], ?_⟩
  rw [e1]
  have hq := pop_ok { begun r with r := { beginR r with g4 := ⟨(k : Int), false⟩, ip := IntKind.u16.wrap (r.ip + n) }, mem := setF (fun _ => 0) (4096 + k) (4096 + k + 1) r.ip, tag := setT (fun _ => 0) (4096 + k) (4096 + k + 1) false } k h rfl rfl rfl rfl ⟨r.ip, false⟩
    (setF_lo (fun _ => 0) (4096 + k) r.ip) (setF_hi (fun _ => 0) (4096 + k) r.ip) (setT_lo (fun _ => 0) (4096 + k) false) (setT_hi (fun _ => 0) (4096 + k) false)
  unfold Mach.back
  dsimp only
  rw [hq.1, hq.2]
  exact ⟨rfl, rfl⟩

/-- A far call and its return. -/
theorem far_back (r : Regs) (k : Nat) (h : k + 2 < 65000) (hg : r.g4.v = ((k + 4 : Nat) : Int)) (n n' : Int) (sel : V) :
    ((begun r).callF n sel).r = { beginR r with g4 := ⟨(k : Int), false⟩, ip := n, s1 := sel } ∧
    (((begun r).callF n sel).back true n').r = { beginR r with g4 := ⟨IntKind.u16.wrap (((k + 4 : Nat) : Int) + n'), false⟩ } ∧ (((begun r).callF n sel).back true n').state = 0 := by
  have hg4 : (begun r).r.g4 = ⟨((k + 2 + 2 : Nat) : Int), false⟩ := by show (⟨r.g4.v, false⟩ : V) = _; rw [hg]
  have hp := push_ok (begun r) (k + 2) h hg4 rfl rfl rfl rfl rfl (begun r).r.s1
  have e1 : (begun r).callF n sel = { begun r with r := { beginR r with g4 := ⟨(k : Int), false⟩, ip := n, s1 := sel }, mem := setF (setF (fun _ => 0) (4096 + (k + 2)) (4096 + (k + 2) + 1) 256) (4096 + k) (4096 + k + 1) r.ip, tag := setT (setT (fun _ => 0) (4096 + (k + 2)) (4096 + (k + 2) + 1) true) (4096 + k) (4096 + k + 1) false } := by
    unfold Mach.callF
    rw [hp]
    have hp2 := push_ok { begun r with r := (begun r).r.put 4 ⟨((k + 2 : Nat) : Int), false⟩, mem := setF (begun r).mem (4096 + (k + 2)) (4096 + (k + 2) + 1) (begun r).r.s1.v, tag := setT (begun r).tag (4096 + (k + 2)) (4096 + (k + 2) + 1) (begun r).r.s1.t } k (by omega) rfl rfl rfl rfl
      (setT_no (fun _ => 0) (4096 + (k + 2)) (4096 + k) true (by omega) (by omega)) (setT_no (fun _ => 0) (4096 + (k + 2)) (4096 + k + 1) true (by omega) (by omega)) ⟨r.ip, false⟩
    have e : ({ begun r with r := (begun r).r.put 4 ⟨((k + 2 : Nat) : Int), false⟩, mem := setF (begun r).mem (4096 + (k + 2)) (4096 + (k + 2) + 1) (begun r).r.s1.v, tag := setT (begun r).tag (4096 + (k + 2)) (4096 + (k + 2) + 1) (begun r).r.s1.t } : Mach).r.ip = r.ip := rfl
    rw [e, hp2]
    rfl
  refine ⟨by rw [e1], ?_⟩
  rw [e1]
  have hq := pop_ok { begun r with r := { beginR r with g4 := ⟨(k : Int), false⟩, ip := n, s1 := sel }, mem := setF (setF (fun _ => 0) (4096 + (k + 2)) (4096 + (k + 2) + 1) 256) (4096 + k) (4096 + k + 1) r.ip, tag := setT (setT (fun _ => 0) (4096 + (k + 2)) (4096 + (k + 2) + 1) true) (4096 + k) (4096 + k + 1) false } k (by omega) rfl rfl rfl rfl ⟨r.ip, false⟩
    (setF_lo (setF (fun _ => 0) (4096 + (k + 2)) (4096 + (k + 2) + 1) 256) (4096 + k) r.ip) (setF_hi (setF (fun _ => 0) (4096 + (k + 2)) (4096 + (k + 2) + 1) 256) (4096 + k) r.ip) (setT_lo (setT (fun _ => 0) (4096 + (k + 2)) (4096 + (k + 2) + 1) true) (4096 + k) false) (setT_hi (setT (fun _ => 0) (4096 + (k + 2)) (4096 + (k + 2) + 1) true) (4096 + k) false)
  have hq2 := pop_ok { begun r with r := { beginR r with g4 := ⟨((k + 2 : Nat) : Int), false⟩, ip := n, s1 := sel }, mem := setF (setF (fun _ => 0) (4096 + (k + 2)) (4096 + (k + 2) + 1) 256) (4096 + k) (4096 + k + 1) r.ip, tag := setT (setT (fun _ => 0) (4096 + (k + 2)) (4096 + (k + 2) + 1) true) (4096 + k) (4096 + k + 1) false } (k + 2) h rfl rfl rfl rfl ⟨256, true⟩
    ((setF_no (setF (fun _ => 0) (4096 + (k + 2)) (4096 + (k + 2) + 1) 256) (4096 + k) (4096 + (k + 2)) r.ip (by omega) (by omega)).trans (setF_lo (fun _ => 0) (4096 + (k + 2)) 256)) ((setF_no (setF (fun _ => 0) (4096 + (k + 2)) (4096 + (k + 2) + 1) 256) (4096 + k) (4096 + (k + 2) + 1) r.ip (by omega) (by omega)).trans (setF_hi (fun _ => 0) (4096 + (k + 2)) 256))
    ((setT_no (setT (fun _ => 0) (4096 + (k + 2)) (4096 + (k + 2) + 1) true) (4096 + k) (4096 + (k + 2)) false (by omega) (by omega)).trans (setT_lo (fun _ => 0) (4096 + (k + 2)) true)) ((setT_no (setT (fun _ => 0) (4096 + (k + 2)) (4096 + (k + 2) + 1) true) (4096 + k) (4096 + (k + 2) + 1) false (by omega) (by omega)).trans (setT_hi (fun _ => 0) (4096 + (k + 2)) true))
  unfold Mach.back
  dsimp only
  rw [hq.1, hq.2]
  have e3 : (({ begun r with r := { beginR r with g4 := ⟨(k : Int), false⟩, ip := n, s1 := sel }, mem := setF (setF (fun _ => 0) (4096 + (k + 2)) (4096 + (k + 2) + 1) 256) (4096 + k) (4096 + k + 1) r.ip, tag := setT (setT (fun _ => 0) (4096 + (k + 2)) (4096 + (k + 2) + 1) true) (4096 + k) (4096 + k + 1) false } : Mach).setR (({ beginR r with g4 := ⟨(k : Int), false⟩, ip := n, s1 := sel } : Regs).put 4 ⟨((k + 2 : Nat) : Int), false⟩)).plain ⟨r.ip, false⟩ = { begun r with r := { beginR r with g4 := ⟨((k + 2 : Nat) : Int), false⟩, ip := n, s1 := sel }, mem := setF (setF (fun _ => 0) (4096 + (k + 2)) (4096 + (k + 2) + 1) 256) (4096 + k) (4096 + k + 1) r.ip, tag := setT (setT (fun _ => 0) (4096 + (k + 2)) (4096 + (k + 2) + 1) true) (4096 + k) (4096 + k + 1) false } := rfl
  unfold Mach.setR at e3
  rw [e3, hq2.1, hq2.2]
  exact ⟨rfl, rfl⟩
end Go.Proofs.YtcglkefaopgjeaaDoor
