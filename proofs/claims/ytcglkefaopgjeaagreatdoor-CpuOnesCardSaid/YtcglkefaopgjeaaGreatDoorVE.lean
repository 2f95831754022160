/- Parts of the proof, in one text: YtcglkefaopgjeaaGreatDoorOD. Each part's own remark says what it proves; conditions: those of each theorem. -/
import Derived.Test.YtcglkefaopgjeaaGreatDoorVB

/- The law CpuOnes. -/
namespace Go.Proofs.YtcglkefaopgjeaaGreatDoor
set_option linter.unusedSimpArgs false
set_option linter.unusedVariables false
open Go.RowKit

theorem shift_says (name a N : Int) (n : Nat) (hN : N = n) (was : Int) (wide : Bool) (w : World) (hn : ShN name) (a0 : 0 ≤ a) (a1 : a ≤ limW wide) (n1 : n ≤ 40) (hw : andW was 2261 = was) :
    Calls Tryz.prog 29 #[.int .i64 name, .int .u16 a, .int .i64 N, .int .u16 was, .bool wide] w fun e w' => e = .returned (.tuple #[.int .u16 (eV name a was wide n), .int .u16 (eF name a was wide n)]) ∧ Below w.heap.size w w' := by
  have hb := hn.b
  have hc := cut_same a wide a0 a1
  have hl := limW_le wide
  have e1 : eV name a was wide n = (shP name (cutW a wide) was wide n).1 := by unfold eV; rw [hb, hc]; rfl
  have e2 : eF name a was wide n = shG name (cutW a wide) was wide n := by unfold eF; rw [hb, hc]; rfl
  rw [e1, e2]
  cases wide
  · exact refShiftB_any name a N n hN was w hn a0 (by omega) n1 hw
  · exact refShiftW_any name a N n hN was w hn a0 (by omega) n1 hw
theorem by_cl (r : Regs) (hr : r.wf) (L : List Int) (j : Inst) (t : V) : ((begun r L).getV j 15 t).v = r.g1.v % 256 := rfl
theorem by_one (m : Mach) (j : Inst) (t : V) : (m.getV j 18 t).v = 1 := rfl
theorem begun_g1 (r : Regs) (L : List Int) : (begun r L).r.g1.v = r.g1.v := rfl

set_option maxRecDepth 100000 in
set_option maxHeartbeats 6400000 in
theorem cpuOnes_any (KP : PutSays) (r : Regs) (hr : r.wf) (x : Inst) (hx : x.kinds) (shifts : Bool) (w : World) (T : TypeId) (hT : Row w 0 basesC T) :
    Calls Tryz.prog 5 #[r.val, x.val, .bool shifts] w fun e w' => e = .returned (.bool true) ∧ Below w.heap.size w w' := by
  obtain ⟨lo, hlo⟩ : ∃ lo : Int, (if shifts then 63 else if x.lock then 15 else 84) = lo := ⟨_, rfl⟩
  obtain ⟨hi, hhi⟩ : ∃ hi : Int, (if shifts then 69 else if x.lock then 16 else 85) = hi := ⟨_, rfl⟩
  have KO : ∀ w, Calls Tryz.prog 20 #[x.val, .int .i64 lo, .int .i64 hi] w (Found lo hi w) := by
    intro w
    cases shifts
    · cases hlk : x.lock
      · rw [hlk] at hlo hhi
        subst hlo hhi
        obtain ⟨K, N, hK, hN, hok⟩ := not_there x hx
        exact only_any x hx 84 85 (by decide) K N hK hN hok w
      · rw [hlk] at hlo hhi
        subst hlo hhi
        obtain ⟨K, N, hK, hN, hok⟩ := inc_there x hx
        exact only_any x hx 15 16 (by decide) K N hK hN hok w
    · subst hlo hhi
      obtain ⟨K, N, hK, hN, hok⟩ := sh_there x hx
      exact only_any x hx 63 69 (by decide) K N hK hN hok w
  have KO := Lib.hid KO
  have HLH := Lib.hid (show ∀ n : Int, lo ≤ n → n ≤ hi → OneN n ∨ ShN n from fun n h1 h2 => by
    cases shifts
    · cases hlk : x.lock <;> rw [hlk] at hlo hhi <;> simp at hlo hhi
      · exact Or.inl (by unfold OneN; omega)
      · exact Or.inl (by unfold OneN; omega)
    · simp at hlo hhi
      exact Or.inr ⟨by omega, by omega⟩)
  have HB0 := Lib.hid (((Below.refl w.heap.size w).alloc (Nat.le_refl _) (.cells r.cells 28)).alloc (by simp) (.cells x.cells 30))
  have HR0 := Lib.hid ((Row.new w r.cells 28).alloc (.cells x.cells 30))
  have HX0 := Lib.hid (Row.new' (w := w.alloc (.cells r.cells 28)) (n := w.heap.size + 1) (cs := x.cells) (t := 30) (by simp))
  have HG0 := Lib.hid ((hT.alloc (.cells r.cells 28)).alloc (.cells x.cells 30))
  have W0 := Lib.hid hT.lt
  have HLO := Lib.hid hlo
  have HHI := Lib.hid hhi
  clear hT hlo hhi
  go_enter Tryz.func5, Tryz.ntmps5
  go_upto_if 24 with fail
  generalize (w.alloc (.cells r.cells 28)).alloc (.cells x.cells 30) = W0 at HB0 HR0 HX0 HG0 ⊢
  go_cut [7, 8] (fun s7 s8 wx => W0 = wx ∧ s7 = .int .i64 lo ∧ s8 = .int .i64 hi)
  case first => as_aux_lemma =>
    cases shifts
    · have xl : W0.cell? ⟨w.heap.size + 1, 0, none⟩ = some (.bool x.lock) := HX0.out.cell 0
      cases hlk : x.lock
      · rw [hlk] at HLO HHI xl
        go_wp2_with fail
        go_meet
        rw [← HLO.out, ← HHI.out]
        exact ⟨rfl, rfl, rfl⟩
      · rw [hlk] at HLO HHI xl
        go_wp2_with fail
        go_meet
        rw [← HLO.out, ← HHI.out]
        exact ⟨rfl, rfl, rfl⟩
    · go_wp2_with fail
      go_meet
      rw [← HLO.out, ← HHI.out]
      exact ⟨rfl, rfl, rfl⟩
  case rest =>
  obtain ⟨rfl, rfl, rfl⟩ := hcut
  have xx := HX0.out.cell
  go_wp2_with fail
  refine (KO.out _).mono ?_
  rintro e w1 ⟨j, R, hg, hrow, n0, n1, rfl, hb⟩; dsimp only
  obtain ⟨rn, ra, rb, rm⟩ := R
  dsimp only at n0 n1
  have hn := HLH.out rn n0 n1
  have HB1 := Lib.hid (HB0.out.trans (hb.mono HB0.out.size))
  have HR1 := Lib.hid (Below.row hb HR0.out HR0.out.lt)
  have HG1 := Lib.hid (Below.row hb HG0.out HG0.out.lt)
  clear hb xx KO HLH HLO HHI n0 n1
  go_upto_region 7 with fail
  have HB2 := Lib.hid ((HB1.out.alloc HB1.out.size (.cells j.cells 30)).alloc (by rw [World.size_alloc]; exact Nat.le_succ_of_le HB1.out.size) (.cells #[.int .i64 rn, .int .i64 ra, .int .i64 rb, .bool rm] 47))
  have HR2 := Lib.hid ((HR1.out.alloc (.cells j.cells 30)).alloc (.cells #[.int .i64 rn, .int .i64 ra, .int .i64 rb, .bool rm] 47))
  have HG2 := Lib.hid ((HG1.out.alloc (.cells j.cells 30)).alloc (.cells #[.int .i64 rn, .int .i64 ra, .int .i64 rb, .bool rm] 47))
  have HJ2 := Lib.hid ((Row.new w1 j.cells 30).alloc (.cells #[.int .i64 rn, .int .i64 ra, .int .i64 rb, .bool rm] 47))
  have HS2 := Lib.hid (Row.new' (w := w1.alloc (.cells j.cells 30)) (n := w1.heap.size + 1) (cs := #[.int .i64 rn, .int .i64 ra, .int .i64 rb, .bool rm]) (t := 47) (by simp))
  generalize (w1.alloc (.cells j.cells 30)).alloc (.cells #[.int .i64 rn, .int .i64 ra, .int .i64 rb, .bool rm] 47) = w2 at HB2 HR2 HG2 HJ2 HS2 ⊢
  generalize w1.heap.size = B5 at HJ2 HS2 ⊢
  obtain ⟨L, hL⟩ : ∃ l, putL j = l := ⟨_, rfl⟩
  have HL := Lib.hid hL
  have HGD := Lib.hid hg
  have HROW := Lib.hid hrow
  have hlen := putL_le j
  have KPJ := Lib.hid (KP j hg)
  have HW := Lib.hid (putL_wf j hg)
  rw [hL] at KPJ HW hlen
  clear KP hL hg hrow
  go_upto_region 9 with fail
  go_cut [12] (fun s12 wx => ∃ (C : Phys), s12 = .pointer (some ⟨C.b, 0, none⟩) ∧ PX C w (begun r L) j ⟨rn, ra, rb, rm⟩ T B5 (B5 + 1) [] wx)
  case first => as_aux_lemma =>
    have xj := HJ2.out.cell
    obtain ⟨xc, xf, xr, xs, xl⟩ := HR2.out.sees
    have lj := HJ2.out.lt
    go_region_held3 (fun w' => regsIn w' w.heap.size = some r.val ∧ (∀ k, w'.cell? ⟨B5, k, none⟩ = j.cells[k]?)) ((refine ⟨?_, ?_⟩; (focus ((repeat (first | assumption | (rw [regsIn_drew]) | (rw [regsIn_alloc_past _ _ _ (by first | assumption | (simp; omega))]))); done)); (focus (go_keep)))) (first | (go_at_call 15; refine (KPJ.out _).mono ?_; rintro e w3 ⟨g, cap, rfl, hb, hg0, hg1, hcells⟩; have HB23 := Lib.hid (below_in (a := w2) (by (repeat (first | exact Below.refl _ _ | refine below_alloc ?_ _ | refine Below.drew ?_))) hb); have xr3 : regsIn w3 w.heap.size = some r.val := (regsIn_row (Below.row HB23.out HR2.out HR2.out.lt)).trans (rowRegs_regs r); have xl3 : w.heap.size < w3.heap.size := (Below.row HB23.out HR2.out HR2.out.lt).lt; have xj3 := (Below.row HB23.out HJ2.out HJ2.out.lt).cell; have lj3 := (Below.row HB23.out HJ2.out HJ2.out.lt).lt; have KB := Lib.hid (begin_any w3 r hr g cap L hg1 hcells HW.out (by omega)); clear hb hg0 hg1 hcells) | (go_at_call 16; refine KB.out.mono ?_; rintro e w4 ⟨C, lv, rfl, ho, hb4, hn⟩; have HP4 := Lib.hid (sum_in (r := ⟨rn, ra, rb, rm⟩) HB2.out HJ2.out HS2.out HG2.out HB23.out ho hb4 hn); have xr4 : regsIn w4 w.heap.size = some r.val := (regsIn_row (Below.row hb4 (Below.row HB23.out HR2.out HR2.out.lt) (Below.row HB23.out HR2.out HR2.out.lt).lt)).trans (rowRegs_regs r); have xj4 := HP4.out.i.row.cell; clear ho hb4 hn))
    all_goals
      go_wp2_with fail
      go_meet
      exact ⟨C, rfl, lv, HP4.out, fun e he => by cases he⟩
  case rest =>
  obtain ⟨C, rfl, hp⟩ := hcut
  have hab := one_row HGD.out.wf.op.1 HGD.out.wf.op.2 HGD.out.wf.reg.1 HGD.out.wf.reg.2 HROW.out hn
  dsimp only at hab
  have hopo : opO ra := hab.1
  obtain ⟨n, hnb⟩ : ∃ n : Nat, (if rb = 15 then r.g1.v % 256 else 1) = (n : Int) := by
    have := hr.g1.1
    split
    · exact ⟨(r.g1.v % 256).toNat, by omega⟩
    · exact ⟨1, rfl⟩
  have KS := Lib.hid (fun w lv h hb => one_step r hr j HGD.out L HL.out ⟨rn, ra, rb, rm⟩ HROW.out hn n (fun hs => by
    have := (hab.2.1 hs).2
    dsimp only
    rcases this with e | e
    · rw [e] at hnb ⊢
      rw [by_cl r hr]
      simp only [if_true] at hnb
      omega
    · rw [e] at hnb ⊢
      rw [by_one]
      simp at hnb
      omega) C T w lv h hb)
  have KVA := fun w lv h hb => value_any w C lv (begun r L) h T hb j ra (getOk_all T j HGD.out.wf ra (by omega))
  rw [(easy_begun r L).getM] at KVA
  have him : V.wf ⟨j.imm, false⟩ := ⟨HGD.out.wf.imm.1, HGD.out.wf.imm.2⟩
  obtain ⟨va, hva⟩ : ∃ v, ((begun r L).getV j ra ⟨j.imm, false⟩).v = v := ⟨_, rfl⟩
  have hvl : 0 ≤ va ∧ va ≤ limW (wideB ra) := by obtain ⟨lv, a, _⟩ := hp; rw [← hva]; exact val_lim a.o j ra hopo him
  have hsays := one_says r hr j HGD.out.wf L L.length ⟨rn, ra, rb, rm⟩ hopo va hvl.1 hvl.2 n ⟨j.imm, false⟩
  dsimp only at KS hsays
  have KS := Lib.hid (fun w lv h hb => (hva ▸ KS.out w lv h hb : Calls Tryz.prog 25 #[.pointer (some ⟨C.b, 0, none⟩)] w fun e w' => e = .returned (.bool true) ∧ After C lv w (oneE ((begun r L).on L.length) j ⟨rn, ra, rb, rm⟩ va n) w'))
  rw [hva] at KVA
  have KOF := fun w (hb : Row w 0 basesC T) => of_any (begun r L).r j w T hb
  generalize oneE ((begun r L).on L.length) j ⟨rn, ra, rb, rm⟩ va n = M at KS hsays
  obtain ⟨g1, g2, g3, g4⟩ := hsays
  have g3 := g3 j.defSeg
  have f0 : (begun r L).r.f = andW r.f 4053 := rfl
  have c0 : (begun r L).r.g1.v = r.g1.v := rfl
  have KS := KS.out
  have hmk : Msk (andW (andW r.f 4053) 2261) := msk_and _ (w_and_lo _ _) (w_and_hi _ _)
  generalize begun r L = M0 at KS KVA KOF hp g3 g4 f0 hva c0
  generalize andW r.f 4053 = F0 at g2 g4 f0 hmk
  obtain ⟨was, hwas⟩ : ∃ x, andW F0 2261 = x := ⟨_, rfl⟩
  rw [hwas] at g2 g4 hmk
  have HWAS := Lib.hid hwas
  obtain ⟨sg, hsg⟩ : ∃ s, M0.r.seg j.defSeg = s := ⟨_, rfl⟩
  obtain ⟨pf, hpf⟩ : ∃ p, M0.r.offOf j = p := ⟨_, rfl⟩
  rw [hsg, hpf] at KOF
  rw [hsg] at g3
  rw [hpf] at g4
  obtain ⟨sa, st⟩ := sg
  obtain ⟨po, pc⟩ := pf
  dsimp only at KOF g4
  have KOF := Lib.hid KOF
  have HG1 := Lib.hid g1
  have HG2 := Lib.hid g2
  have HG3 := Lib.hid g3
  have HG4 := Lib.hid g4
  have HF0 := Lib.hid f0
  have PVA := Lib.hid (PX.calls (w := w) (i := j) (r := ⟨rn, ra, rb, rm⟩) (B5 := B5) (B6 := B5 + 1) (E := []) KVA)
  have PST := Lib.hid (fun B => PX.calls (w := w) (i := j) (r := ⟨rn, ra, rb, rm⟩) (B5 := B5) (B6 := B5 + 1) (E := [(B, #[.int .u16 sa, .bool st, .int .u16 po], 52)]) KS)
  have KW := Lib.hid (fun w => wide_any ra w (by omega) (by omega))
  have KVE := Lib.hid (fun w lv h hb => value_any w C lv M h T hb j ra (getOk_all T j HGD.out.wf ra (by omega)))
  have KOM := Lib.hid (fun w (hb : Row w 0 basesC T) => of_any M.r j w T hb)
  have HCX := Lib.hid c0
  have HNB := Lib.hid hnb
  have HVL := Lib.hid hvl
  have HAB := Lib.hid hab
  have hn40 : n ≤ 255 := by have := hr.g1.1; split at hnb <;> omega
  have lwd : wideB ra = wideB ra := rfl
  clear KVA hva him g1 g2 g3 g4 f0 hsg hpf KS KPJ HW HB2 HR2 HJ2 HS2 hlen hwas c0 hab hnb hvl hopo lwd
  have xr := hp.cr
  go_upto_region 10 with fail
  go_wp2_with fail
  refine (KW.out _).mono ?_
  rintro e w' ⟨rfl, rfl⟩; dsimp only
  clear xr
  go_upto_region 11 with fail
  go_cut [14, 15] (fun s14 s15 wx => s14 = .int .u16 va ∧ s15 = .int .u16 was ∧ PX C w M0 j ⟨rn, ra, rb, rm⟩ T B5 (B5 + 1) [] wx)
  case first => as_aux_lemma =>
    have S0 := Lib.hid hp.drew
    have xi := hp.ci
    have xr := hp.cr
    have li := hp.lt.2.1
    have lb := hp.lt.2.2
    have c25 : wc.cell? ⟨C.b, 25, none⟩ = some (.int .u16 F0) := (hp.sees.c 25).trans (show some (Value.int .u16 M0.r.f) = _ by rw [HF0.out])
    clear hp
    go_region_held3 (fun w' => (∀ k, w'.cell? ⟨B5, k, none⟩ = j.cells[k]?) ∧ (∀ k, w'.cell? ⟨B5 + 1, k, none⟩ = (rowC ⟨rn, ra, rb, rm⟩)[k]?) ∧ w'.cell? ⟨C.b, 25, none⟩ = some (.int .u16 F0)) (go_keep) (first | (go_at_call 21; with_reducible refine (PVA.out _ ?_).mono ?_; (focus (refine Hid.out ?_; assumption)); rintro e w1 ⟨rfl, hq⟩; have y1 := hq.ci; have y2 := hq.cr; have y3 : w1.cell? ⟨C.b, 25, none⟩ = some (.int .u16 F0) := (hq.sees.c 25).trans ((mcell25 C M0).trans (by rw [HF0.out])); have S1 := Lib.hid hq; clear hq))
    all_goals
      go_wp2_with fail
      go_meet
      rw [← HWAS.out]
      exact ⟨rfl, rfl, S1.out⟩
  case rest =>
  obtain ⟨rfl, rfl, hp⟩ := hcut
  clear PVA
  have xr := hp.cr
  have c2 : wc.cell? ⟨C.b, 2, none⟩ = some (.int .u16 r.g1.v) := (hp.sees.c 2).trans (show some (Value.int .u16 M0.r.g1.v) = _ by rw [HCX.out])
  go_upto_if 57 with fail
  go_cut [16] (fun s16 wx => wc = wx ∧ s16 = .int .i64 n)
  case first => as_aux_lemma =>
    have hg := hr.g1
    by_cases h15 : rb = 15
    · have b15 : (rb == 15) = true := by simp [h15]
      have HZ := Lib.hid (show r.g1.v % 256 = (n : Int) by rw [← HNB.out, if_pos h15])
      have hg0 := hg.1
      have hg1 := hg.2
      clear h15 hg
      go_wp2_with fail
      go_meet
      refine ⟨rfl, ?_⟩
      rw [← HZ.out]
    · have b15 : (rb == 15) = false := by simp [h15]
      have HZ := Lib.hid (show (1 : Int) = (n : Int) by rw [← HNB.out, if_neg h15])
      clear h15
      go_wp2_with fail
      go_meet
      rw [← HZ.out]
      exact ⟨rfl, rfl⟩
  case rest =>
  obtain ⟨rfl, rfl⟩ := hcut
  clear c2 xr
  by_cases hn41 : 40 < (n : Int)
  · as_aux_lemma =>
    go_wp2_with fail
    refine (awake_any _).mono ?_
    rintro e w9 ⟨rfl, hb9⟩; dsimp only
    have HQ := Lib.hid (hp.below hb9).b
    clear hp hb9
    go_wp2_with fail
    go_ret
    first | exact ⟨rfl, HQ.out⟩ | exact ⟨retX (by simp), HQ.out⟩
  have HN41 := Lib.hid hn41
  go_upto_region 17 with fail
  clear hn41
  go_cut [17] (fun s17 wx => ∃ B : Nat, s17 = .pointer (some ⟨B, 0, none⟩) ∧ PX C w M0 j ⟨rn, ra, rb, rm⟩ T B5 (B5 + 1) [(B, #[.int .u16 sa, .bool st, .int .u16 po], 52)] wx)
  case first => as_aux_lemma =>
    have HX := Lib.hid hp
    have hD := hp.drew
    have sr := hD.sees.r
    have sl := hD.sees.l
    have ci := hD.ci
    have sr0 := hp.sees.r
    have sl0 := hp.sees.l
    have ci0 := hp.ci
    have li : B5 < wc.heap.size := hp.lt.1
    have e1 : ¬ B5 = wc.heap.size := Nat.ne_of_lt hp.lt.1
    have e2 : ¬ wc.heap.size = B5 := Ne.symm e1
    have e3 : ¬ C.b = wc.heap.size := Nat.ne_of_lt sl0
    have e4 : ¬ wc.heap.size = C.b := Ne.symm e3
    clear hp hD
    go_region_law (refine step_calls rfl 22 #[.tmp 74, .tmp 75] _ rfl own_of #[Regs.val (M0).r, j.val] (by simp [Act.eval, Act.put]) ((KOF.out _ (by repeat (first | (with_reducible exact HX.out.g) | (with_reducible refine Row.alloc ?_ _) | (with_reducible refine Row.drew ?_)))).mono ?_); rintro e w' ⟨rfl, hb⟩; refine ⟨_, rfl, ?_⟩; have hF := PX.below (C := C) (w := w) (m := M0) (i := j) (r := ⟨rn, ra, rb, rm⟩) (T := T) (B5 := B5) (B6 := B5 + 1) (E := []) (by repeat (first | (with_reducible exact HX.out) | (with_reducible refine PX.alloc ?_ _) | (with_reducible refine PX.drew ?_))) hb; have sz := hb.size; (try ((first | with_reducible have hG := PX.below (HX.out.drew.new zeroP 52) hb | with_reducible have hG := PX.below (HX.out.new zeroP 52).drew hb); have R9 := hG.box (List.mem_cons_self ..); have c9 := R9.cell; have f9 := R9.frozen; have l9 := R9.lt)); clear hb)
    all_goals
      go_wp2_with fail
      go_meet
      first | exact ⟨_, rfl, hF.new _ _⟩ | exact ⟨_, rfl, ((hG.set HX.out (Nat.le_refl _) 0 _).set HX.out (Nat.le_refl _) 1 _).set HX.out (Nat.le_refl _) 2 _⟩
  case rest =>
  obtain ⟨B15, rfl, hp⟩ := hcut
  clear KOF
  have xr := hp.cr
  obtain ⟨dv, hdv⟩ : ∃ v, eV rn va was (wideB ra) n = v := ⟨_, rfl⟩
  obtain ⟨df, hdf⟩ : ∃ v, eF rn va was (wideB ra) n = v := ⟨_, rfl⟩
  rw [hdv] at HG4
  rw [hdf] at HG2
  have HDV := Lib.hid hdv
  have HDF := Lib.hid hdf
  have HMK := Lib.hid hmk
  have HNN := Lib.hid hn
  clear hdv hdf hmk hn hn40
  generalize hwd : wideB ra = wd at HDV HDF HVL
  have tl := top_lim va wd HVL.out.2
  go_upto_region 19 with fail
  go_upto_block 0 with fail
  go_cut [19, 20] (fun s19 s20 wx => s19 = .int .u16 dv ∧ s20 = .int .u16 df ∧ PX C w M0 j ⟨rn, ra, rb, rm⟩ T B5 (B5 + 1) [(B15, #[.int .u16 sa, .bool st, .int .u16 po], 52)] wx)
  case first => as_aux_lemma =>
    have HP := Lib.hid hp
    have v0 := HVL.out.1
    clear hp
    rcases HNN.out with (e | e | e | e) | hs
    · as_aux_lemma =>
      have K := Lib.hid (fun w => refAdd_any va 1 0 wd w v0 tl (by decide) (by cases wd <;> decide) (by decide))
      subst e
      have H1 := Lib.hid (show addV va 1 0 wd = dv by rw [← HDV.out]; rfl)
      have H2 := Lib.hid (show orW (andNotW (addF va 1 0 wd) 1) (andW was 1) = df by rw [← HDF.out]; rfl)
      clear tl v0
      go_wp2_with fail
      refine (K.out _).mono ?_
      rintro e w1 ⟨rfl, hb1⟩; dsimp only
      have HQ := Lib.hid (HP.out.below hb1)
      clear hb1 xr
      go_wp2_with fail
      go_meet
      rw [← H1.out, ← H2.out]
      exact ⟨rfl, rfl, HQ.out⟩
    · as_aux_lemma =>
      have K := Lib.hid (fun w => refSub_any va 1 0 wd w v0 tl (by decide) (by cases wd <;> decide) (by decide))
      subst e
      have H1 := Lib.hid (show subV va 1 0 wd = dv by rw [← HDV.out]; rfl)
      have H2 := Lib.hid (show orW (andNotW (subF va 1 0 wd) 1) (andW was 1) = df by rw [← HDF.out]; rfl)
      clear tl v0
      go_wp2_with fail
      refine (K.out _).mono ?_
      rintro e w1 ⟨rfl, hb1⟩; dsimp only
      have HQ := Lib.hid (HP.out.below hb1)
      clear hb1 xr
      go_wp2_with fail
      go_meet
      rw [← H1.out, ← H2.out]
      exact ⟨rfl, rfl, HQ.out⟩
    · as_aux_lemma =>
      have v1 : va ≤ 65535 := by have := limW_le wd; have := HVL.out.2; omega
      have K := Lib.hid (fun w => refCut_any (65535 - va) wd w (by omega) (by omega))
      have hwr : IntKind.u16.wrap (65535 - va) = 65535 - va := by rw [IntKind.wrap_u16]; omega
      subst e
      have H1 := Lib.hid (show cutW (65535 - va) wd = dv by rw [← HDV.out]; rfl)
      have H2 := Lib.hid (show was = df by rw [← HDF.out]; exact HMK.out.symm)
      clear tl
      go_wp2_with fail
      refine (K.out _).mono ?_
      rintro e w1 ⟨rfl, rfl⟩; dsimp only
      clear xr
      go_wp2_with fail
      go_meet
      rw [← H1.out, ← H2.out]
      exact ⟨rfl, rfl, HP.out⟩
    · as_aux_lemma =>
      have K := Lib.hid (fun w => refSub_any 0 va 0 wd w (by decide) (by cases wd <;> decide) v0 tl (by decide))
      subst e
      have H1 := Lib.hid (show subV 0 va 0 wd = dv by rw [← HDV.out]; rfl)
      have H2 := Lib.hid (show subF 0 va 0 wd = df by rw [← HDF.out]; rfl)
      clear tl v0
      go_wp2_with fail
      refine (K.out _).mono ?_
      rintro e w1 ⟨rfl, hb1⟩; dsimp only
      have HQ := Lib.hid (HP.out.below hb1)
      clear hb1 xr
      go_wp2_with fail
      go_meet
      rw [← H1.out, ← H2.out]
      exact ⟨rfl, rfl, HQ.out⟩
    · as_aux_lemma =>
      have hnn : n ≤ 40 := by have := HN41.out; omega
      have K := Lib.hid (fun w => shift_says rn va n n rfl was wd w hs v0 HVL.out.2 hnn HMK.out)
      rw [HDV.out, HDF.out] at K
      have n1 : (rn == 15) = false := by have := hs.1; simp; omega
      have n2 : (rn == 16) = false := by have := hs.1; simp; omega
      have n3 : (rn == 84) = false := by have := hs.2; simp; omega
      have n4 : (rn == 85) = false := by have := hs.2; simp; omega
      clear tl v0 hs hnn
      go_wp2_with fail
      refine (K.out _).mono ?_
      rintro e w1 ⟨rfl, hb1⟩; dsimp only
      have HQ := Lib.hid (HP.out.below hb1)
      clear hb1 xr
      go_wp2_with fail
      go_meet
      exact ⟨rfl, rfl, HQ.out⟩
  case rest =>
  obtain ⟨rfl, rfl, hp⟩ := hcut
  clear tl xr
  have c25 : wc.cell? ⟨C.b, 25, none⟩ = some (.int .u16 F0) := (hp.sees.c 25).trans ((mcell25 C M0).trans (by rw [HF0.out]))
  go_wp2_with fail
  refine (PST.out B15 _ hp).mono ?_
  clear c25 hp
  rintro e w8 ⟨rfl, lv8, a8, b8⟩; dsimp only
  have hp : PX C w M j ⟨rn, ra, rb, rm⟩ T B5 (B5 + 1) [(B15, #[.int .u16 sa, .bool st, .int .u16 po], 52)] w8 := ⟨lv8, a8, b8⟩
  have HP8 := Lib.hid hp
  have ho8 := a8.o
  clear a8 b8 hp
  have c25 : w8.cell? ⟨C.b, 25, none⟩ = some (.int .u16 (orW (andNotW F0 2261) df)) := (HP8.out.sees.c 25).trans ((mcell25 C M).trans (by rw [HG2.out]))
  go_wp2_with fail
  refine (state_any _ _ _ _ ho8).mono ?_
  rw [HG1.out]
  rintro e w' ⟨rfl, rfl⟩; dsimp only
  clear ho8
  go_upto_region 34 with fail
  clear c25
  obtain ⟨qf, hqf⟩ : ∃ p, M.r.offOf j = p := ⟨_, rfl⟩
  have KOF := KOM.out
  rw [HG3.out, hqf] at KOF
  have hg4 := HG4.out
  rw [hqf] at hg4
  obtain ⟨qo, qc⟩ := qf
  dsimp only at KOF hg4
  have KOF := Lib.hid KOF
  have HG5 := Lib.hid hg4
  clear KOM HG4 HG1 HG2 hg4 hqf
  have hp := HP8.out
  generalize w8 = wc at hp ⊢
  clear HP8
  go_cut [22] (fun s22 wx => ∃ B : Nat, s22 = .pointer (some ⟨B, 0, none⟩) ∧ PX C w M j ⟨rn, ra, rb, rm⟩ T B5 (B5 + 1) [(B, #[.int .u16 sa, .bool st, .int .u16 qo], 52), (B15, #[.int .u16 sa, .bool st, .int .u16 po], 52)] wx)
  case first => as_aux_lemma =>
    have HX := Lib.hid hp
    have hD := hp.drew
    have sr := hD.sees.r
    have sl := hD.sees.l
    have ci := hD.ci
    have sr0 := hp.sees.r
    have sl0 := hp.sees.l
    have ci0 := hp.ci
    have li : B5 < wc.heap.size := hp.lt.1
    have e1 : ¬ B5 = wc.heap.size := Nat.ne_of_lt hp.lt.1
    have e2 : ¬ wc.heap.size = B5 := Ne.symm e1
    have e3 : ¬ C.b = wc.heap.size := Nat.ne_of_lt sl0
    have e4 : ¬ wc.heap.size = C.b := Ne.symm e3
    clear hp hD
    go_region_law (refine step_calls rfl 22 #[.tmp 161, .tmp 162] _ rfl own_of #[Regs.val (M).r, j.val] (by simp [Act.eval, Act.put]) ((KOF.out _ (by repeat (first | (with_reducible exact HX.out.g) | (with_reducible refine Row.alloc ?_ _) | (with_reducible refine Row.drew ?_)))).mono ?_); rintro e w' ⟨rfl, hb⟩; refine ⟨_, rfl, ?_⟩; have hF := PX.below (C := C) (w := w) (m := M) (i := j) (r := ⟨rn, ra, rb, rm⟩) (T := T) (B5 := B5) (B6 := B5 + 1) (E := [(B15, #[.int .u16 sa, .bool st, .int .u16 po], 52)]) (by repeat (first | (with_reducible exact HX.out) | (with_reducible refine PX.alloc ?_ _) | (with_reducible refine PX.drew ?_))) hb; have sz := hb.size; (try ((first | with_reducible have hG := PX.below (HX.out.drew.new zeroP 52) hb | with_reducible have hG := PX.below (HX.out.new zeroP 52).drew hb); have R9 := hG.box (List.mem_cons_self ..); have c9 := R9.cell; have f9 := R9.frozen; have l9 := R9.lt)); clear hb)
    all_goals
      go_wp2_with fail
      go_meet
      first | exact ⟨_, rfl, hF.new _ _⟩ | exact ⟨_, rfl, ((hG.set HX.out (Nat.le_refl _) 0 _).set HX.out (Nat.le_refl _) 1 _).set HX.out (Nat.le_refl _) 2 _⟩
  case rest =>
  obtain ⟨B22, rfl, hp⟩ := hcut
  clear KOF
  have KV := Lib.hid (PX.calls (w := w) (i := j) (r := ⟨rn, ra, rb, rm⟩) (B5 := B5) (B6 := B5 + 1) (E := [(B22, #[.int .u16 sa, .bool st, .int .u16 qo], 52), (B15, #[.int .u16 sa, .bool st, .int .u16 po], 52)]) KVE.out)
  clear KVE
  go_wp2_with fail
  refine (awake_any _).mono ?_
  rintro e w9 ⟨rfl, hb9⟩; dsimp only
  have hp := hp.below hb9
  have HP9 := Lib.hid hp
  have xi := hp.ci
  have xr := hp.cr
  have c15 := (hp.box (List.mem_cons_of_mem _ (List.mem_cons_self ..))).cell
  have c22 := (hp.box (List.mem_cons_self ..)).cell
  have eqp := eq_P sa st po qo
  clear hp hb9
  by_cases hqo : po = qo
  · as_aux_lemma =>
    have hb : (po == qo) = true := by simp [hqo]
    rw [hb] at eqp
    obtain ⟨gv, hgv⟩ : ∃ v, (M.getV j ra ⟨j.imm, false⟩).v = v := ⟨_, rfl⟩
    have hge := HG5.out hqo.symm
    rw [hgv] at KV hge
    subst hge
    clear hqo hb hgv
    go_wp2_with fail
    refine (KV.out _ HP9.out).mono ?_
    rintro e wz ⟨rfl, hq⟩; dsimp only
    have HQ := Lib.hid hq.b
    clear hq
    go_wp2_with fail
    go_ret
    first | exact ⟨rfl, HQ.out⟩ | exact ⟨retX (by simp), HQ.out⟩
  · as_aux_lemma =>
    have hb : (po == qo) = false := by simp [hqo]
    rw [hb] at eqp
    clear hqo hb
    go_wp2_with fail
    go_ret
    first | exact ⟨rfl, HP9.out.b⟩ | exact ⟨retX (by simp), HP9.out.b⟩
end Go.Proofs.YtcglkefaopgjeaaGreatDoor
