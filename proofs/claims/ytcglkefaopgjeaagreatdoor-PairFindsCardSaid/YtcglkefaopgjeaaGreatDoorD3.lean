/- Contracts of package core: bytes and words of memory. -/
import Derived.Test.YtcglkefaopgjeaaGreatDoorD2
namespace Go.Proofs.YtcglkefaopgjeaaGreatDoor
set_option linter.unusedSimpArgs false
set_option linter.unusedVariables false
open Go.RowKit

theorem quietS2 {P : Program} {f : FuncId} {args : Array Value} {w : World} {n : Nat} {v : Value}
    (h : Calls P f args (w.drewN n) fun e w' => e = .returned v ∧ w.drewN n = w') : Calls P f args (w.drewN n) fun e w'' => e = .returned v ∧ ∃ m, w'' = w.drewN m := quietS h

theorem Fr.two (w : World) (g : Nat) (a b : Nat) (u v : Value) : Fr (fun k => k = g) w ((w.setCell ⟨g, a, none⟩ u).setCell ⟨g, b, none⟩ v) :=
  ((Fr.refl (fun k => k = g) w).setCell (p := ⟨g, a, none⟩) rfl u).setCell (p := ⟨g, b, none⟩) rfl v
/-- A callee's work between boxes of the caller's own: before it only new blocks, behind it a store into one of them. -/
theorem After.box {C : Phys} {lv : Value} {w w1 w2 w3 : World} {m m' : Mach} (ho : Own w C lv m) (hb : Below w.heap.size w w1) (ha : After C lv w1 m' w2) {g : Nat} (hg : w.heap.size ≤ g) (hg1 : g < w1.heap.size)
    (hf : Fr (fun k => k = g) w2 w3) : After C lv w m' w3 := by
  obtain ⟨lv2, h1, h2, h3⟩ := ha
  have b0 := ho.lt
  have b1 := ho.l1
  have b2 := ho.l2
  have b3 := ho.l3
  have b4 := ho.l4
  have b5 : C.wb < C.base := ho.wor.wbB
  have hlv : ∀ k, lv2.ownBlock = some k → ¬ k = g := by
    intro k hk e
    subst e
    rcases h3 k hk with h | h
    · have := ho.lvlt h; omega
    · omega
  refine ⟨lv2, h1.kept hf (by omega) (by omega) (by omega) (by omega) (by omega) (fun k hk => ?_) hlv, ?_, ?_⟩
  · have : k < C.base := (ho.wor.repB k hk).1
    omega
  · refine ⟨hf.os.trans (h2.os.trans hb.os), hf.tape.trans (h2.tape.trans hb.tape), hf.output.trans (h2.output.trans hb.output), Nat.le_trans hb.size (Nat.le_trans h2.size hf.size), ?_⟩
    intro k hk hn
    have k1 : k < w1.heap.size := Nat.lt_of_lt_of_le hk hb.size
    exact ((hf.block k (Nat.lt_of_lt_of_le k1 h2.size) (by omega)).trans (h2.block k k1 hn)).trans (hb.block k hk)
  · intro k hk
    exact (h3 k hk).imp id (fun h => Nat.le_trans hb.size h)

def Mach.byteOk (m : Mach) (seg : V) (off : Int) : Bool := (m.tag (lin seg.v off) == 0) && m.owns seg off 1
def Mach.byteS (m : Mach) (seg : V) (off : Int) : Mach := if m.byteOk seg off then m else m.stuck

theorem MemAt.drewN {w : World} {mb bb tb n : Nat} {f t : Nat → Int} (hm : MemAt w mb bb tb f t) : MemAt (w.drewN n) mb bb tb f t :=
  ⟨hm.r.drewN, hm.b.drewN, hm.t.drewN, hm.ne1, hm.ne2, hm.ne3, hm.wf⟩

set_option maxHeartbeats 1600000 in
theorem byte_any (w : World) (C : Phys) (lv : Value) (m : Mach) (h : Own w C lv m) (seg : V) (off : Int) (hs : seg.wf) (h0 : 0 ≤ off) (h1 : off ≤ 65535) :
    Calls Tryz.prog 108 #[.pointer (some ⟨C.b, 0, none⟩), P3 seg off] w fun e w' => e = .returned (.int .u16 (m.mem (lin seg.v off))) ∧ After C lv w (m.byteS seg off) w' := by
  have H := Lib.hid (h.alloc (.cells #[.int .u16 seg.v, .bool seg.t, .int .u16 off] 52))
  have B := Lib.hid (Box.new h #[.int .u16 seg.v, .bool seg.t, .int .u16 off] 52)
  have hc := h.row.cell
  have hl := h.row.lt
  have HM := Lib.hid h.mem
  have wf := h.mem.wf (lin seg.v off)
  have WF := Lib.hid wf
  have s0 := hs.1
  have s1 := hs.2
  have hwf0 := wf.1
  have hwf1 := wf.2
  clear h wf
  have hcon : ∀ n, Calls Tryz.prog 57 #[.pointer (some ⟨C.mb, 0, none⟩), .int .u16 seg.v, .int .u16 off] ((w.alloc (.cells #[.int .u16 seg.v, .bool seg.t, .int .u16 off] 52)).drewN n) fun e w' => e = .returned (.tuple #[.int .u8 (m.mem (lin seg.v off)), .bool (m.tag (lin seg.v off) == 0)]) ∧ (w.alloc (.cells #[.int .u16 seg.v, .bool seg.t, .int .u16 off] 52)).drewN n = w' :=
    fun n => memByte_any _ _ _ _ _ _ ((HM.out.alloc _).drewN) seg.v off s0 s1 h0 h1
  cases ht : m.tag (lin seg.v off) == 0 with
  | false =>
    rw [ht] at hcon
    have HCON := Lib.hid hcon
    have hb : m.byteOk seg off = false := by rw [Mach.byteOk, ht, Bool.false_and]
    have HB := Lib.hid hb
    clear hb ht hcon
    rw [Mach.byteS, HB.out, if_neg (by decide)]
    go_enter Tryz.func108, Tryz.ntmps108
    go_wp2_with fail
    go_quiet ((go_at_call 57; exact quietS (HCON.out _)))
    go_wp2_with (go_at_call 38; refine (stuck_any _ _ _ _ H.out.drewN).mono ?_; rintro e w1 ⟨rfl, ha⟩; have HA := Lib.hid ha; clear ha)
    go_ret
    exact ⟨rfl, After.pre (Fr.drewN ((Fr.refl _ _).alloc _)) (fun _ hk => Or.inl hk) HA.out⟩
  | true =>
    rw [ht] at hcon
    have HCON := Lib.hid hcon
    have hb : m.byteOk seg off = m.owns seg off 1 := by rw [Mach.byteOk, ht, Bool.true_and]
    have HB := Lib.hid hb
    clear hb ht hcon
    rw [Mach.byteS, HB.out]
    cases ho : m.owns seg off 1 with
    | true =>
      have HO := Lib.hid ho
      clear ho
      rw [if_pos rfl]
      go_enter Tryz.func108, Tryz.ntmps108
      go_wp2_with fail
      go_quiet ((go_at_call 57; exact quietS (HCON.out _)))
      go_wp2_with (go_at_call 100; refine (Own_any _ _ _ _ H.out.drewN seg off hs 1 (by decide)).mono ?_; rw [HO.out]; rintro e w1 ⟨rfl, hb1⟩; have H1 := Lib.hid hb1; clear hb1)
      go_ret
      exact ⟨rfl, (After.of_own H.out.drewN (Fr.drewN ((Fr.refl _ _).alloc _))).post H1.out⟩
    | false =>
      have HO := Lib.hid ho
      clear ho
      rw [if_neg (by decide)]
      go_enter Tryz.func108, Tryz.ntmps108
      go_wp2_with fail
      go_quiet ((go_at_call 57; exact quietS (HCON.out _)))
      go_wp2_with (first | (go_at_call 100; refine (Own_any _ _ _ _ H.out.drewN seg off hs 1 (by decide)).mono ?_; rw [HO.out]; rintro e w1 ⟨rfl, hb1⟩; have H1 := Lib.hid hb1; clear hb1) | (go_at_call 38; refine (stuck_any _ _ _ _ (H.out.drewN.below H1.out)).mono ?_; rintro e w2 ⟨rfl, ha⟩; have HA := Lib.hid ha; clear ha))
      go_ret
      exact ⟨rfl, After.pre ((Fr.drewN ((Fr.refl _ _).alloc _)).trans (Fr.of_below H1.out)) (fun _ hk => Or.inl hk) HA.out⟩
end Go.Proofs.YtcglkefaopgjeaaGreatDoor
