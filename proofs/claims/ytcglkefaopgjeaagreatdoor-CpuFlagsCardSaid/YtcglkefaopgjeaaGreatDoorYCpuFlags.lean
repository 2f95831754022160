/- CpuFlags: the law's steps, its walk, its row, in one text: each part's own remark says what it proves; conditions: hansom/addr.bases holds its own text. -/
import Derived.Test.YtcglkefaopgjeaaGreatDoorW10
import Derived.Test.YtcglkefaopgjeaaGreatDoorW11
import Derived.Test.YtcglkefaopgjeaaGreatDoorW12
import Derived.Laws.BitsAllLaws

/- The steps of CpuFlags: plain laws, no walk. -/
namespace Go.Proofs.YtcglkefaopgjeaaGreatDoor
set_option linter.unusedSimpArgs false
set_option linter.unusedVariables false
open Go.RowKit

/-- What the machine of CpuFlags is behind its step. -/
def fm (r : Regs) : Nat → Mach
  | 0 => ((begun r [248]).on 1).doWith 1 false
  | 1 => ((begun r [249]).on 1).doWith 1 true
  | 2 => ((begun r [250]).on 1).doWith 512 false
  | 3 => ((begun r [251]).on 1).doWith 512 true
  | 4 => ((begun r [252]).on 1).doWith 1024 false
  | 5 => ((begun r [253]).on 1).doWith 1024 true
  | 6 => ((begun r [245]).on 1).doCmc
  | 7 => ((begun r [158]).on 1).doSahf
  | 8 => ((begun r [159]).on 1).doLahf
  | 9 => ((begun r [152]).on 1).doCbw
  | 10 => ((begun r [153]).on 1).doCwd
  | _ => (begun r [155]).on 1
theorem fm_step0 (r : Regs) (hr : r.wf) (C : Phys) : StepOk C (begun r [248]) (fm r 0) := by
  have c := fun k hk => code_begun r hr.ip.1 hr.ip.2 [248] k hk
  refine step_alone (sane_begun _ _) 248 (by decide) (by decide) (c 0 (by decide)) (by decide) ⟨90, 0, 0, false⟩ rfl (by decide) (by decide) ?_
  intro w lv h
  refine do_flags w C lv _ _ h _ ⟨90, 0, 0, false⟩ ⟨0, false⟩ (by decide) ?_
  intro w lv h
  exact flags_90 w C lv _ h ⟨90, 0, 0, false⟩ rfl
theorem fm_step1 (r : Regs) (hr : r.wf) (C : Phys) : StepOk C (begun r [249]) (fm r 1) := by
  have c := fun k hk => code_begun r hr.ip.1 hr.ip.2 [249] k hk
  refine step_alone (sane_begun _ _) 249 (by decide) (by decide) (c 0 (by decide)) (by decide) ⟨91, 0, 0, false⟩ rfl (by decide) (by decide) ?_
  intro w lv h
  refine do_flags w C lv _ _ h _ ⟨91, 0, 0, false⟩ ⟨0, false⟩ (by decide) ?_
  intro w lv h
  exact flags_91 w C lv _ h ⟨91, 0, 0, false⟩ rfl
theorem fm_step2 (r : Regs) (hr : r.wf) (C : Phys) : StepOk C (begun r [250]) (fm r 2) := by
  have c := fun k hk => code_begun r hr.ip.1 hr.ip.2 [250] k hk
  refine step_alone (sane_begun _ _) 250 (by decide) (by decide) (c 0 (by decide)) (by decide) ⟨92, 0, 0, false⟩ rfl (by decide) (by decide) ?_
  intro w lv h
  refine do_flags w C lv _ _ h _ ⟨92, 0, 0, false⟩ ⟨0, false⟩ (by decide) ?_
  intro w lv h
  exact flags_92 w C lv _ h ⟨92, 0, 0, false⟩ rfl
theorem fm_step3 (r : Regs) (hr : r.wf) (C : Phys) : StepOk C (begun r [251]) (fm r 3) := by
  have c := fun k hk => code_begun r hr.ip.1 hr.ip.2 [251] k hk
  refine step_alone (sane_begun _ _) 251 (by decide) (by decide) (c 0 (by decide)) (by decide) ⟨93, 0, 0, false⟩ rfl (by decide) (by decide) ?_
  intro w lv h
  refine do_flags w C lv _ _ h _ ⟨93, 0, 0, false⟩ ⟨0, false⟩ (by decide) ?_
  intro w lv h
  exact flags_93 w C lv _ h ⟨93, 0, 0, false⟩ rfl
theorem fm_step4 (r : Regs) (hr : r.wf) (C : Phys) : StepOk C (begun r [252]) (fm r 4) := by
  have c := fun k hk => code_begun r hr.ip.1 hr.ip.2 [252] k hk
  refine step_alone (sane_begun _ _) 252 (by decide) (by decide) (c 0 (by decide)) (by decide) ⟨94, 0, 0, false⟩ rfl (by decide) (by decide) ?_
  intro w lv h
  refine do_flags w C lv _ _ h _ ⟨94, 0, 0, false⟩ ⟨0, false⟩ (by decide) ?_
  intro w lv h
  exact flags_94 w C lv _ h ⟨94, 0, 0, false⟩ rfl
theorem fm_step5 (r : Regs) (hr : r.wf) (C : Phys) : StepOk C (begun r [253]) (fm r 5) := by
  have c := fun k hk => code_begun r hr.ip.1 hr.ip.2 [253] k hk
  refine step_alone (sane_begun _ _) 253 (by decide) (by decide) (c 0 (by decide)) (by decide) ⟨95, 0, 0, false⟩ rfl (by decide) (by decide) ?_
  intro w lv h
  refine do_flags w C lv _ _ h _ ⟨95, 0, 0, false⟩ ⟨0, false⟩ (by decide) ?_
  intro w lv h
  exact flags_95 w C lv _ h ⟨95, 0, 0, false⟩ rfl
theorem fm_step6 (r : Regs) (hr : r.wf) (C : Phys) : StepOk C (begun r [245]) (fm r 6) := by
  have c := fun k hk => code_begun r hr.ip.1 hr.ip.2 [245] k hk
  refine step_alone (sane_begun _ _) 245 (by decide) (by decide) (c 0 (by decide)) (by decide) ⟨83, 0, 0, false⟩ rfl (by decide) (by decide) ?_
  intro w lv h
  refine do_flags w C lv _ _ h _ ⟨83, 0, 0, false⟩ ⟨0, false⟩ (by decide) ?_
  intro w lv h
  exact flags_83 w C lv _ h ⟨83, 0, 0, false⟩ rfl
theorem fm_step7 (r : Regs) (hr : r.wf) (C : Phys) : StepOk C (begun r [158]) (fm r 7) := by
  have c := fun k hk => code_begun r hr.ip.1 hr.ip.2 [158] k hk
  refine step_alone (sane_begun _ _) 158 (by decide) (by decide) (c 0 (by decide)) (by decide) ⟨44, 0, 0, false⟩ rfl (by decide) (by decide) ?_
  intro w lv h
  refine do_flags w C lv _ _ h _ ⟨44, 0, 0, false⟩ ⟨0, false⟩ (by decide) ?_
  intro w lv h
  exact flags_44 w C lv _ h ⟨44, 0, 0, false⟩ rfl
theorem fm_step8 (r : Regs) (hr : r.wf) (C : Phys) : StepOk C (begun r [159]) (fm r 8) := by
  have c := fun k hk => code_begun r hr.ip.1 hr.ip.2 [159] k hk
  refine step_alone (sane_begun _ _) 159 (by decide) (by decide) (c 0 (by decide)) (by decide) ⟨45, 0, 0, false⟩ rfl (by decide) (by decide) ?_
  intro w lv h
  refine do_flags w C lv _ _ h _ ⟨45, 0, 0, false⟩ ⟨0, false⟩ (by decide) ?_
  intro w lv h
  exact flags_45 w C lv _ h ⟨45, 0, 0, false⟩ rfl
theorem fm_step9 (r : Regs) (hr : r.wf) (C : Phys) : StepOk C (begun r [152]) (fm r 9) := by
  have c := fun k hk => code_begun r hr.ip.1 hr.ip.2 [152] k hk
  refine step_alone (sane_begun _ _) 152 (by decide) (by decide) (c 0 (by decide)) (by decide) ⟨37, 0, 0, false⟩ rfl (by decide) (by decide) ?_
  intro w lv h
  refine do_flags w C lv _ _ h _ ⟨37, 0, 0, false⟩ ⟨0, false⟩ (by decide) ?_
  intro w lv h
  exact flags_37 w C lv _ h ⟨37, 0, 0, false⟩ rfl
theorem fm_step10 (r : Regs) (hr : r.wf) (C : Phys) : StepOk C (begun r [153]) (fm r 10) := by
  have c := fun k hk => code_begun r hr.ip.1 hr.ip.2 [153] k hk
  refine step_alone (sane_begun _ _) 153 (by decide) (by decide) (c 0 (by decide)) (by decide) ⟨38, 0, 0, false⟩ rfl (by decide) (by decide) ?_
  intro w lv h
  refine do_flags w C lv _ _ h _ ⟨38, 0, 0, false⟩ ⟨0, false⟩ (by decide) ?_
  intro w lv h
  exact flags_38 w C lv _ h ⟨38, 0, 0, false⟩ rfl
theorem fm_step11 (r : Regs) (hr : r.wf) (C : Phys) : StepOk C (begun r [155]) (fm r 11) := by
  have c := fun k hk => code_begun r hr.ip.1 hr.ip.2 [155] k hk
  refine step_alone (sane_begun _ _) 155 (by decide) (by decide) (c 0 (by decide)) (by decide) ⟨41, 0, 0, false⟩ rfl (by decide) (by decide) ?_
  intro w lv h
  exact do_idle w C lv _ h _ ⟨41, 0, 0, false⟩ ⟨0, false⟩ (by decide)
theorem fm_state0 (r : Regs) : (fm r 0).state = 0 := rfl
theorem fm_state1 (r : Regs) : (fm r 1).state = 0 := rfl
theorem fm_state2 (r : Regs) : (fm r 2).state = 0 := rfl
theorem fm_state3 (r : Regs) : (fm r 3).state = 0 := rfl
theorem fm_state4 (r : Regs) : (fm r 4).state = 0 := rfl
theorem fm_state5 (r : Regs) : (fm r 5).state = 0 := rfl
theorem fm_state6 (r : Regs) : (fm r 6).state = 0 := rfl
theorem fm_state7 (r : Regs) : (fm r 7).state = 0 := rfl
theorem fm_state8 (r : Regs) : (fm r 8).state = 0 := rfl
theorem fm_state9 (r : Regs) : (fm r 9).state = 0 := rfl
theorem fm_state10 (r : Regs) : (fm r 10).state = 0 := rfl
theorem fm_state11 (r : Regs) : (fm r 11).state = 0 := rfl
theorem low1 : andW 1 4053 = 1 := by kernel_rfl
theorem low512 : andW 512 4053 = 512 := by kernel_rfl
theorem low1024 : andW 1024 4053 = 1024 := by kernel_rfl
theorem sahf_law (f a : Int) (f0 : 0 ≤ f) (f1 : f ≤ 65535) (a0 : 0 ≤ a) (a1 : a ≤ 65535) : orW (andNotW (andW f 4053) 255) (andW (andW a 255) 4053) = orW (andW (andW f 4053) 3840) (andW a 213) := by
  obtain ⟨n, rfl⟩ := Int.eq_ofNat_of_zero_le f0
  obtain ⟨b, rfl⟩ := Int.eq_ofNat_of_zero_le a0
  have hn : n < 65536 := by omega
  have hb : b < 65536 := by omega
  have e1 : andW (n : Int) 4053 = ((n &&& 4053 : Nat) : Int) := u16_and_nat n 4053 hn (by decide)
  have l1 : n &&& 4053 < 65536 := Nat.lt_of_le_of_lt Nat.and_le_right (by decide)
  have e2 : andNotW ((n &&& 4053 : Nat) : Int) 255 = (((n &&& 4053) &&& (65535 - 255) : Nat) : Int) := u16_andNot_nat _ 255 l1 (by decide)
  have e3 : andW ((n &&& 4053 : Nat) : Int) 3840 = (((n &&& 4053) &&& 3840 : Nat) : Int) := u16_and_nat _ 3840 l1 (by decide)
  have e4 : andW (b : Int) 255 = ((b &&& 255 : Nat) : Int) := u16_and_nat b 255 hb (by decide)
  have l4 : b &&& 255 < 65536 := Nat.lt_of_le_of_lt Nat.and_le_right (by decide)
  have e5 : andW ((b &&& 255 : Nat) : Int) 4053 = (((b &&& 255) &&& 4053 : Nat) : Int) := u16_and_nat _ 4053 l4 (by decide)
  have e6 : andW (b : Int) 213 = ((b &&& 213 : Nat) : Int) := u16_and_nat b 213 hb (by decide)
  rw [e1, e2, e3, e4, e5, e6, Nat.and_assoc, Nat.and_assoc, Nat.and_assoc, show 4053 &&& (65535 - 255) = 3840 from rfl, show 4053 &&& 3840 = 3840 from rfl, show 255 &&& 4053 = 213 from rfl]
theorem lahf_law (f : Int) (f0 : 0 ≤ f) (f1 : f ≤ 65535) : andW (orW (andW (andW f 4053) 4053) 61442) 255 = orW (andW (andW f 4053) 213) 2 ∧ 0 ≤ orW (andW (andW f 4053) 213) 2 ∧ orW (andW (andW f 4053) 213) 2 ≤ 255 := by
  obtain ⟨n, rfl⟩ := Int.eq_ofNat_of_zero_le f0
  have hn : n < 65536 := by omega
  have e1 : andW (n : Int) 4053 = ((n &&& 4053 : Nat) : Int) := u16_and_nat n 4053 hn (by decide)
  have l1 : n &&& 4053 < 65536 := Nat.lt_of_le_of_lt Nat.and_le_right (by decide)
  have e2 : andW ((n &&& 4053 : Nat) : Int) 4053 = (((n &&& 4053) &&& 4053 : Nat) : Int) := u16_and_nat _ 4053 l1 (by decide)
  have l2 : (n &&& 4053) &&& 4053 < 65536 := Nat.lt_of_le_of_lt Nat.and_le_right (by decide)
  have e3 : orW (((n &&& 4053) &&& 4053 : Nat) : Int) 61442 = ((((n &&& 4053) &&& 4053) ||| 61442 : Nat) : Int) := u16_or_nat _ 61442 l2 (by decide)
  have l3 : ((n &&& 4053) &&& 4053) ||| 61442 < 65536 := Nat.or_lt_two_pow (n := 16) l2 (by decide)
  have e4 : andW ((((n &&& 4053) &&& 4053) ||| 61442 : Nat) : Int) 255 = (((((n &&& 4053) &&& 4053) ||| 61442) &&& 255 : Nat) : Int) := u16_and_nat _ 255 l3 (by decide)
  have e5 : andW ((n &&& 4053 : Nat) : Int) 213 = (((n &&& 4053) &&& 213 : Nat) : Int) := u16_and_nat _ 213 l1 (by decide)
  have l5 : (n &&& 4053) &&& 213 < 65536 := Nat.lt_of_le_of_lt Nat.and_le_right (by decide)
  have e6 : orW (((n &&& 4053) &&& 213 : Nat) : Int) 2 = ((((n &&& 4053) &&& 213) ||| 2 : Nat) : Int) := u16_or_nat _ 2 l5 (by decide)
  have k1 : ((((n &&& 4053) &&& 4053) ||| 61442) &&& 255 : Nat) = ((n &&& 4053) &&& 213) ||| 2 := by
    rw [Nat.and_or_distrib_right, show 61442 &&& 255 = 2 from rfl, Nat.and_assoc (n &&& 4053), show 4053 &&& 255 = 213 from rfl]
  have k2 : ((n &&& 4053) &&& 213) ||| 2 < 256 := Nat.or_lt_two_pow (n := 8) (Nat.lt_of_le_of_lt Nat.and_le_right (by decide)) (by decide)
  rw [e1, e2, e3, e4, e5, e6, k1]
  refine ⟨rfl, by omega, by omega⟩
theorem andW_lo (a b : Int) : 0 ≤ andW a b := by show 0 ≤ IntKind.u16.wrap _; exact wrap16_lo _
theorem andW_hi (a b : Int) : andW a b ≤ 65535 := by show IntKind.u16.wrap _ ≤ 65535; exact wrap16_hi _
theorem or_andNot (f : Int) (c : Nat) (f0 : 0 ≤ f) (f1 : f ≤ 65535) (hc : c < 65536) : orW (andNotW f c) c = orW f c := by
  obtain ⟨n, rfl⟩ := Int.eq_ofNat_of_zero_le f0
  have hn : n < 65536 := by omega
  have e1 : andNotW (n : Int) (c : Int) = ((n &&& (65535 - c) : Nat) : Int) := u16_andNot_nat n c hn hc
  have l1 : n &&& (65535 - c) < 65536 := Nat.lt_of_le_of_lt Nat.and_le_right (by omega)
  rw [e1]
  show bits .or .u16 _ _ = bits .or .u16 _ _
  rw [u16_or_nat _ c l1 hc, u16_or_nat n c hn hc]
  congr 1
  have hc' : c < 2 ^ 16 := hc
  have hq : 65535 - c = (2 ^ 16 - (c + 1)) := by omega
  apply Nat.eq_of_testBit_eq
  intro i
  rw [hq]
  simp only [Nat.testBit_or, Nat.testBit_and, Nat.testBit_two_pow_sub_succ hc']
  by_cases hi : i < 16
  · simp [hi]
    cases n.testBit i <;> cases c.testBit i <;> rfl
  · have : n.testBit i = false := Nat.testBit_lt_two_pow (Nat.lt_of_lt_of_le hn (Nat.pow_le_pow_right (by decide : 0 < 2) (by omega : 16 ≤ i)))
    simp [this]
theorem fm_cells0 (r : Regs) (hr : r.wf) : (({ (begun r [248]).r with ip := IntKind.u16.wrap ((begun r [248]).r.ip + 1), f := bits BinOp.andNot IntKind.u16 (begun r [248]).r.f 1 } : Regs).cells : Array Value) = (fm r 0).r.cells := by
  exact congrArg (fun x => ({ ((begun r [248]).on 1).r with f := x } : Regs).cells) (show bits BinOp.andNot IntKind.u16 (andW r.f 4053) 1 = andNotW (andW r.f 4053) (andW 1 4053) from by rw [low1])
theorem fm_cells1 (r : Regs) (hr : r.wf) : (({ (begun r [249]).r with ip := IntKind.u16.wrap ((begun r [249]).r.ip + 1), f := bits BinOp.or IntKind.u16 (begun r [249]).r.f 1 } : Regs).cells : Array Value) = (fm r 1).r.cells := by
  exact congrArg (fun x => ({ ((begun r [249]).on 1).r with f := x } : Regs).cells) (show bits BinOp.or IntKind.u16 (andW r.f 4053) 1 = orW (andNotW (andW r.f 4053) (andW 1 4053)) (andW 1 4053) from by
    rw [low1]; exact (or_andNot _ 1 (andW_lo _ _) (andW_hi _ _) (by decide)).symm)
theorem fm_cells2 (r : Regs) (hr : r.wf) : (({ (begun r [250]).r with ip := IntKind.u16.wrap ((begun r [250]).r.ip + 1), f := bits BinOp.andNot IntKind.u16 (begun r [250]).r.f 512 } : Regs).cells : Array Value) = (fm r 2).r.cells := by
  exact congrArg (fun x => ({ ((begun r [250]).on 1).r with f := x } : Regs).cells) (show bits BinOp.andNot IntKind.u16 (andW r.f 4053) 512 = andNotW (andW r.f 4053) (andW 512 4053) from by rw [low512])
theorem fm_cells3 (r : Regs) (hr : r.wf) : (({ (begun r [251]).r with ip := IntKind.u16.wrap ((begun r [251]).r.ip + 1), f := bits BinOp.or IntKind.u16 (begun r [251]).r.f 512 } : Regs).cells : Array Value) = (fm r 3).r.cells := by
  exact congrArg (fun x => ({ ((begun r [251]).on 1).r with f := x } : Regs).cells) (show bits BinOp.or IntKind.u16 (andW r.f 4053) 512 = orW (andNotW (andW r.f 4053) (andW 512 4053)) (andW 512 4053) from by
    rw [low512]; exact (or_andNot _ 512 (andW_lo _ _) (andW_hi _ _) (by decide)).symm)
theorem fm_cells4 (r : Regs) (hr : r.wf) : (({ (begun r [252]).r with ip := IntKind.u16.wrap ((begun r [252]).r.ip + 1), f := bits BinOp.andNot IntKind.u16 (begun r [252]).r.f 1024 } : Regs).cells : Array Value) = (fm r 4).r.cells := by
  exact congrArg (fun x => ({ ((begun r [252]).on 1).r with f := x } : Regs).cells) (show bits BinOp.andNot IntKind.u16 (andW r.f 4053) 1024 = andNotW (andW r.f 4053) (andW 1024 4053) from by rw [low1024])
theorem fm_cells5 (r : Regs) (hr : r.wf) : (({ (begun r [253]).r with ip := IntKind.u16.wrap ((begun r [253]).r.ip + 1), f := bits BinOp.or IntKind.u16 (begun r [253]).r.f 1024 } : Regs).cells : Array Value) = (fm r 5).r.cells := by
  exact congrArg (fun x => ({ ((begun r [253]).on 1).r with f := x } : Regs).cells) (show bits BinOp.or IntKind.u16 (andW r.f 4053) 1024 = orW (andNotW (andW r.f 4053) (andW 1024 4053)) (andW 1024 4053) from by
    rw [low1024]; exact (or_andNot _ 1024 (andW_lo _ _) (andW_hi _ _) (by decide)).symm)
theorem fm_cells6 (r : Regs) (hr : r.wf) : (({ (begun r [245]).r with ip := IntKind.u16.wrap ((begun r [245]).r.ip + 1), f := bits BinOp.xor IntKind.u16 (begun r [245]).r.f 1 } : Regs).cells : Array Value) = (fm r 6).r.cells := by
  rfl
theorem fm_cells7 (r : Regs) (hr : r.wf) : (({ (begun r [158]).r with ip := IntKind.u16.wrap ((begun r [158]).r.ip + 1), f := bits BinOp.or IntKind.u16 (bits BinOp.and IntKind.u16 (begun r [158]).r.f 3840) (bits BinOp.and IntKind.u16 (IntKind.u16.wrap ((begun r [158]).r.g0.v.tdiv 256)) 213) } : Regs).cells : Array Value) = (fm r 7).r.cells := by
  have e : (fm r 7).r = { ((begun r [158]).on 1).r with f := orW (andNotW (andW r.f 4053) 255) (andW (andW (r.g0.v / 256) 255) 4053) } := rfl
  have e2 : IntKind.u16.wrap (r.g0.v.tdiv 256) = r.g0.v / 256 := by rw [Int.tdiv_eq_ediv_of_nonneg hr.g0.1, IntKind.wrap_u16]; have := hr.g0.1; have := hr.g0.2; omega
  have b0 := hr.g0.1
  have b1 := hr.g0.2
  rw [e, sahf_law _ _ hr.f.1 hr.f.2 (by omega) (by omega), ← e2]
  rfl
theorem fm_cells8 (r : Regs) (hr : r.wf) : (({ (begun r [159]).r with ip := IntKind.u16.wrap ((begun r [159]).r.ip + 1) } : Regs).cells.setIfInBounds 0 (Value.int IntKind.u16 (IntKind.u16.wrap ((begun r [159]).r.g0.v.tmod 256 + IntKind.u16.wrap (256 * bits BinOp.or IntKind.u16 (bits BinOp.and IntKind.u16 (begun r [159]).r.f 213) 2)))) : Array Value) = (fm r 8).r.cells := by
  have e : (fm r 8).r = { ((begun r [159]).on 1).r with g0 := ⟨r.g0.v % 256 + 256 * (andW (orW (andW (andW r.f 4053) 4053) 61442) 255 % 256), false⟩ } := rfl
  obtain ⟨l1, l2, l3⟩ := lahf_law r.f hr.f.1 hr.f.2
  have b0 := hr.g0.1
  have b1 := hr.g0.2
  have e2 : IntKind.u16.wrap (r.g0.v.tmod 256 + IntKind.u16.wrap (256 * orW (andW (andW r.f 4053) 213) 2)) = r.g0.v % 256 + 256 * (orW (andW (andW r.f 4053) 213) 2 % 256) := by
    rw [Int.tmod_eq_emod_of_nonneg b0]
    simp only [IntKind.wrap_u16]
    omega
  rw [e, l1, ← e2]
  rfl
theorem fm_cells9a (r : Regs) (hr : r.wf) (hs : r.g0.v % 256 ≤ 127) : (({ (begun r [152]).r with ip := IntKind.u16.wrap ((begun r [152]).r.ip + 1) } : Regs).cells.setIfInBounds 0 (Value.int IntKind.u16 ((begun r [152]).r.g0.v.tmod 256)) : Array Value) = (fm r 9).r.cells := by
  have e : (fm r 9).r = { ((begun r [152]).on 1).r with g0 := ⟨signW (r.g0.v % 256), false⟩ } := rfl
  have b0 := hr.g0.1
  have b1 := hr.g0.2
  have e2 : r.g0.v.tmod 256 = signW (r.g0.v % 256) := by
    rw [Int.tmod_eq_emod_of_nonneg b0]
    unfold signW
    (try simp only [IntKind.wrap_u16])
    split <;> omega
  rw [e, ← e2]
  rfl
theorem fm_cells9b (r : Regs) (hr : r.wf) (hs : 127 < r.g0.v % 256) : (({ (begun r [152]).r with ip := IntKind.u16.wrap ((begun r [152]).r.ip + 1) } : Regs).cells.setIfInBounds 0 (Value.int IntKind.u16 (IntKind.u16.wrap ((begun r [152]).r.g0.v.tmod 256 + 65280))) : Array Value) = (fm r 9).r.cells := by
  have e : (fm r 9).r = { ((begun r [152]).on 1).r with g0 := ⟨signW (r.g0.v % 256), false⟩ } := rfl
  have b0 := hr.g0.1
  have b1 := hr.g0.2
  have e2 : IntKind.u16.wrap (r.g0.v.tmod 256 + 65280) = signW (r.g0.v % 256) := by
    rw [Int.tmod_eq_emod_of_nonneg b0]
    unfold signW
    (try simp only [IntKind.wrap_u16])
    split <;> omega
  rw [e, ← e2]
  rfl
theorem fm_cells10a (r : Regs) (hr : r.wf) (hs : r.g0.v ≤ 32767) : (({ (begun r [153]).r with ip := IntKind.u16.wrap ((begun r [153]).r.ip + 1) } : Regs).cells.setIfInBounds 4 (Value.int IntKind.u16 0) : Array Value) = (fm r 10).r.cells := by
  have e : (fm r 10).r = { ((begun r [153]).on 1).r with g2 := ⟨spreadW r.g0.v, false⟩ } := rfl
  have e2 : (0 : Int) = spreadW r.g0.v := by
    unfold spreadW
    split <;> omega
  rw [e, ← e2]
  rfl
theorem fm_cells10b (r : Regs) (hr : r.wf) (hs : 32767 < r.g0.v) : (({ (begun r [153]).r with ip := IntKind.u16.wrap ((begun r [153]).r.ip + 1) } : Regs).cells.setIfInBounds 4 (Value.int IntKind.u16 65535) : Array Value) = (fm r 10).r.cells := by
  have e : (fm r 10).r = { ((begun r [153]).on 1).r with g2 := ⟨spreadW r.g0.v, false⟩ } := rfl
  have e2 : (65535 : Int) = spreadW r.g0.v := by
    unfold spreadW
    split <;> omega
  rw [e, ← e2]
  rfl
theorem fm_cells11 (r : Regs) (hr : r.wf) : (({ (begun r [155]).r with ip := IntKind.u16.wrap ((begun r [155]).r.ip + 1) } : Regs).cells : Array Value) = (fm r 11).r.cells := by
  rfl
end Go.Proofs.YtcglkefaopgjeaaGreatDoor

/- The law CpuFlags. -/
namespace Go.Proofs.YtcglkefaopgjeaaGreatDoor
set_option linter.unusedSimpArgs false
set_option linter.unusedVariables false
open Go.RowKit

set_option maxRecDepth 100000 in
set_option maxHeartbeats 6400000 in
theorem cpuFlags_0 (r : Regs) (hr : r.wf) (how x : Int) (hx : bits .and .i64 how 255 = x) (hm : x.tmod 12 = 0) (w : World) :
    Calls Tryz.prog 9 #[r.val, .int .i64 how] w fun e w' => e = .returned (.bool true) ∧ Below w.heap.size w w' := by
  have ax0 := hr.g0.1
  have ax1 := hr.g0.2
  go_enter Tryz.func9, Tryz.ntmps9
  go_wp2_with fail
  have hrow := Row.new ((w.alloc (.cells r.cells 28)).alloc (.cells #[.int .u8 248, .int .u8 249, .int .u8 250, .int .u8 251, .int .u8 252, .int .u8 253, .int .u8 245, .int .u8 158, .int .u8 159, .int .u8 152, .int .u8 153, .int .u8 155] 5)) #[.int .u8 248] 5
  have hcell : ∀ k, k < [(248 : Int)].length → (((w.alloc (.cells r.cells 28)).alloc (.cells #[.int .u8 248, .int .u8 249, .int .u8 250, .int .u8 251, .int .u8 252, .int .u8 253, .int .u8 245, .int .u8 158, .int .u8 159, .int .u8 152, .int .u8 153, .int .u8 155] 5)).alloc (.cells #[.int .u8 248] 5)).cell? ⟨w.heap.size + 1 + 1, k, none⟩ = some (.int .u8 ([(248 : Int)].getD k 0)) := by
    intro k hk
    have := hrow.cell k
    simp only [World.size_alloc] at this
    rw [this]
    match k, hk with
    | 0, _ => rfl
    | k + 1, h => simp at h
  have hlt : w.heap.size + 1 + 1 < (((w.alloc (.cells r.cells 28)).alloc (.cells #[.int .u8 248, .int .u8 249, .int .u8 250, .int .u8 251, .int .u8 252, .int .u8 253, .int .u8 245, .int .u8 158, .int .u8 159, .int .u8 152, .int .u8 153, .int .u8 155] 5)).alloc (.cells #[.int .u8 248] 5)).heap.size := by
    simp
  have hbw : Below w.heap.size w (((w.alloc (.cells r.cells 28)).alloc (.cells #[.int .u8 248, .int .u8 249, .int .u8 250, .int .u8 251, .int .u8 252, .int .u8 253, .int .u8 245, .int .u8 158, .int .u8 159, .int .u8 152, .int .u8 153, .int .u8 155] 5)).alloc (.cells #[.int .u8 248] 5)) :=
    (((Below.refl w.heap.size w).alloc (Nat.le_refl _) _).alloc (by simp) _).alloc (by simp; omega) _
  have bwf : ∀ k, 0 ≤ [(248 : Int)].getD k 0 ∧ [(248 : Int)].getD k 0 ≤ 255 := by
    intro k
    match k with
    | 0 => exact ⟨by show (0 : Int) ≤ 248; decide, by show (248 : Int) ≤ 255; decide⟩
    | k + 1 => simp
  refine (begin_any _ r hr (w.heap.size + 1 + 1) 1 [248] hlt hcell bwf (by simp)).mono ?_
  clear hcell hlt hrow bwf hx hm
  generalize (((w.alloc (.cells r.cells 28)).alloc (.cells #[.int .u8 248, .int .u8 249, .int .u8 250, .int .u8 251, .int .u8 252, .int .u8 253, .int .u8 245, .int .u8 158, .int .u8 159, .int .u8 152, .int .u8 153, .int .u8 155] 5)).alloc (.cells #[.int .u8 248] 5)) = W0 at hbw ⊢
  rintro e w1 ⟨C, lv, rfl, ho, hb1, hn⟩; dsimp only
  have HB1 := Lib.hid (hbw.trans (hb1.mono hbw.size))
  have HN := Lib.hid (fun k (hk : k < w.heap.size) => hn k (Nat.lt_of_lt_of_le hk hbw.size))
  have sr := ho.sees.r
  have sl := ho.row.lt
  have HO1 := Lib.hid ho
  have HB1s := Lib.hid HB1.out.size
  clear ho hb1 hn hbw
  go_upto_region 33 with fail
  clear sr sl
  rw [fm_cells0 r hr]
  have HX := Lib.hid (Box.new HO1.out (fm r 0).r.cells 28)
  have HO := Lib.hid (HO1.out.alloc (.cells (fm r 0).r.cells 28))
  have HB := Lib.hid (HB1.out.alloc HB1.out.size (.cells (fm r 0).r.cells 28))
  have ST := Lib.hid (fm_step0 r hr C)
  have HST := Lib.hid (fm_state0 r)
  have HE := Lib.hid (eq_regs (fm r 0).r)
  generalize w1.alloc (.cells (fm r 0).r.cells 28) = W at HX HO HB ⊢
  generalize w1.heap.size = b at HX ⊢
  generalize fm r 0 = mm at HX ST HST HE ⊢
  generalize begun r [248] = m0 at HO ST HO1 ⊢
  go_region_with (first
    | (go_at_call 18; refine (awake_any _).mono ?_; rintro e w4 ⟨rfl, hb⟩; have HO4 := Lib.hid (HO.out.drew.below hb); have HX4 := Lib.hid (HX.out.drew.below hb); have HB4 := Lib.hid ((Below.drew HB.out).trans (hb.mono (Below.drew HB.out).size)); clear hb)
    | (go_at_call 25; refine (ST.out _ _ HO4.out).mono ?_; rintro e w5 ⟨rfl, lv5, h5, f5, k5⟩; have HO5 := Lib.hid h5; have HX5 := Lib.hid (HX4.out.step f5 k5); have HB5 := Lib.hid (below_step HB4.out f5 HN.out); clear h5 f5 k5; have sc := HO5.out.sees.c; have sf := HO5.out.sees.f; have sr := HO5.out.sees.r; have ss := HO5.out.sees.s; have sl := HO5.out.sees.l; obtain ⟨xc, xf, xr, xs, xl⟩ := HX5.out.row.sees; have eqr := HE.out)
    | (go_at_call 19; have hs := state_any _ C lv5 _ HO5.out; rw [HST.out] at hs; refine hs.mono ?_; clear hs; rintro e w6 ⟨rfl, rfl⟩))
  all_goals
    go_wp2_with fail
    go_ret
    exact ⟨rfl, HB5.out⟩

set_option maxRecDepth 100000 in
set_option maxHeartbeats 6400000 in
theorem cpuFlags_1 (r : Regs) (hr : r.wf) (how x : Int) (hx : bits .and .i64 how 255 = x) (hm : x.tmod 12 = 1) (w : World) :
    Calls Tryz.prog 9 #[r.val, .int .i64 how] w fun e w' => e = .returned (.bool true) ∧ Below w.heap.size w w' := by
  have ax0 := hr.g0.1
  have ax1 := hr.g0.2
  go_enter Tryz.func9, Tryz.ntmps9
  go_wp2_with fail
  have hrow := Row.new ((w.alloc (.cells r.cells 28)).alloc (.cells #[.int .u8 248, .int .u8 249, .int .u8 250, .int .u8 251, .int .u8 252, .int .u8 253, .int .u8 245, .int .u8 158, .int .u8 159, .int .u8 152, .int .u8 153, .int .u8 155] 5)) #[.int .u8 249] 5
  have hcell : ∀ k, k < [(249 : Int)].length → (((w.alloc (.cells r.cells 28)).alloc (.cells #[.int .u8 248, .int .u8 249, .int .u8 250, .int .u8 251, .int .u8 252, .int .u8 253, .int .u8 245, .int .u8 158, .int .u8 159, .int .u8 152, .int .u8 153, .int .u8 155] 5)).alloc (.cells #[.int .u8 249] 5)).cell? ⟨w.heap.size + 1 + 1, k, none⟩ = some (.int .u8 ([(249 : Int)].getD k 0)) := by
    intro k hk
    have := hrow.cell k
    simp only [World.size_alloc] at this
    rw [this]
    match k, hk with
    | 0, _ => rfl
    | k + 1, h => simp at h
  have hlt : w.heap.size + 1 + 1 < (((w.alloc (.cells r.cells 28)).alloc (.cells #[.int .u8 248, .int .u8 249, .int .u8 250, .int .u8 251, .int .u8 252, .int .u8 253, .int .u8 245, .int .u8 158, .int .u8 159, .int .u8 152, .int .u8 153, .int .u8 155] 5)).alloc (.cells #[.int .u8 249] 5)).heap.size := by
    simp
  have hbw : Below w.heap.size w (((w.alloc (.cells r.cells 28)).alloc (.cells #[.int .u8 248, .int .u8 249, .int .u8 250, .int .u8 251, .int .u8 252, .int .u8 253, .int .u8 245, .int .u8 158, .int .u8 159, .int .u8 152, .int .u8 153, .int .u8 155] 5)).alloc (.cells #[.int .u8 249] 5)) :=
    (((Below.refl w.heap.size w).alloc (Nat.le_refl _) _).alloc (by simp) _).alloc (by simp; omega) _
  have bwf : ∀ k, 0 ≤ [(249 : Int)].getD k 0 ∧ [(249 : Int)].getD k 0 ≤ 255 := by
    intro k
    match k with
    | 0 => exact ⟨by show (0 : Int) ≤ 249; decide, by show (249 : Int) ≤ 255; decide⟩
    | k + 1 => simp
  refine (begin_any _ r hr (w.heap.size + 1 + 1) 1 [249] hlt hcell bwf (by simp)).mono ?_
  clear hcell hlt hrow bwf hx hm
  generalize (((w.alloc (.cells r.cells 28)).alloc (.cells #[.int .u8 248, .int .u8 249, .int .u8 250, .int .u8 251, .int .u8 252, .int .u8 253, .int .u8 245, .int .u8 158, .int .u8 159, .int .u8 152, .int .u8 153, .int .u8 155] 5)).alloc (.cells #[.int .u8 249] 5)) = W0 at hbw ⊢
  rintro e w1 ⟨C, lv, rfl, ho, hb1, hn⟩; dsimp only
  have HB1 := Lib.hid (hbw.trans (hb1.mono hbw.size))
  have HN := Lib.hid (fun k (hk : k < w.heap.size) => hn k (Nat.lt_of_lt_of_le hk hbw.size))
  have sr := ho.sees.r
  have sl := ho.row.lt
  have HO1 := Lib.hid ho
  have HB1s := Lib.hid HB1.out.size
  clear ho hb1 hn hbw
  go_upto_region 33 with fail
  clear sr sl
  rw [fm_cells1 r hr]
  have HX := Lib.hid (Box.new HO1.out (fm r 1).r.cells 28)
  have HO := Lib.hid (HO1.out.alloc (.cells (fm r 1).r.cells 28))
  have HB := Lib.hid (HB1.out.alloc HB1.out.size (.cells (fm r 1).r.cells 28))
  have ST := Lib.hid (fm_step1 r hr C)
  have HST := Lib.hid (fm_state1 r)
  have HE := Lib.hid (eq_regs (fm r 1).r)
  generalize w1.alloc (.cells (fm r 1).r.cells 28) = W at HX HO HB ⊢
  generalize w1.heap.size = b at HX ⊢
  generalize fm r 1 = mm at HX ST HST HE ⊢
  generalize begun r [249] = m0 at HO ST HO1 ⊢
  go_region_with (first
    | (go_at_call 18; refine (awake_any _).mono ?_; rintro e w4 ⟨rfl, hb⟩; have HO4 := Lib.hid (HO.out.drew.below hb); have HX4 := Lib.hid (HX.out.drew.below hb); have HB4 := Lib.hid ((Below.drew HB.out).trans (hb.mono (Below.drew HB.out).size)); clear hb)
    | (go_at_call 25; refine (ST.out _ _ HO4.out).mono ?_; rintro e w5 ⟨rfl, lv5, h5, f5, k5⟩; have HO5 := Lib.hid h5; have HX5 := Lib.hid (HX4.out.step f5 k5); have HB5 := Lib.hid (below_step HB4.out f5 HN.out); clear h5 f5 k5; have sc := HO5.out.sees.c; have sf := HO5.out.sees.f; have sr := HO5.out.sees.r; have ss := HO5.out.sees.s; have sl := HO5.out.sees.l; obtain ⟨xc, xf, xr, xs, xl⟩ := HX5.out.row.sees; have eqr := HE.out)
    | (go_at_call 19; have hs := state_any _ C lv5 _ HO5.out; rw [HST.out] at hs; refine hs.mono ?_; clear hs; rintro e w6 ⟨rfl, rfl⟩))
  all_goals
    go_wp2_with fail
    go_ret
    exact ⟨rfl, HB5.out⟩

set_option maxRecDepth 100000 in
set_option maxHeartbeats 6400000 in
theorem cpuFlags_2 (r : Regs) (hr : r.wf) (how x : Int) (hx : bits .and .i64 how 255 = x) (hm : x.tmod 12 = 2) (w : World) :
    Calls Tryz.prog 9 #[r.val, .int .i64 how] w fun e w' => e = .returned (.bool true) ∧ Below w.heap.size w w' := by
  have ax0 := hr.g0.1
  have ax1 := hr.g0.2
  go_enter Tryz.func9, Tryz.ntmps9
  go_wp2_with fail
  have hrow := Row.new ((w.alloc (.cells r.cells 28)).alloc (.cells #[.int .u8 248, .int .u8 249, .int .u8 250, .int .u8 251, .int .u8 252, .int .u8 253, .int .u8 245, .int .u8 158, .int .u8 159, .int .u8 152, .int .u8 153, .int .u8 155] 5)) #[.int .u8 250] 5
  have hcell : ∀ k, k < [(250 : Int)].length → (((w.alloc (.cells r.cells 28)).alloc (.cells #[.int .u8 248, .int .u8 249, .int .u8 250, .int .u8 251, .int .u8 252, .int .u8 253, .int .u8 245, .int .u8 158, .int .u8 159, .int .u8 152, .int .u8 153, .int .u8 155] 5)).alloc (.cells #[.int .u8 250] 5)).cell? ⟨w.heap.size + 1 + 1, k, none⟩ = some (.int .u8 ([(250 : Int)].getD k 0)) := by
    intro k hk
    have := hrow.cell k
    simp only [World.size_alloc] at this
    rw [this]
    match k, hk with
    | 0, _ => rfl
    | k + 1, h => simp at h
  have hlt : w.heap.size + 1 + 1 < (((w.alloc (.cells r.cells 28)).alloc (.cells #[.int .u8 248, .int .u8 249, .int .u8 250, .int .u8 251, .int .u8 252, .int .u8 253, .int .u8 245, .int .u8 158, .int .u8 159, .int .u8 152, .int .u8 153, .int .u8 155] 5)).alloc (.cells #[.int .u8 250] 5)).heap.size := by
    simp
  have hbw : Below w.heap.size w (((w.alloc (.cells r.cells 28)).alloc (.cells #[.int .u8 248, .int .u8 249, .int .u8 250, .int .u8 251, .int .u8 252, .int .u8 253, .int .u8 245, .int .u8 158, .int .u8 159, .int .u8 152, .int .u8 153, .int .u8 155] 5)).alloc (.cells #[.int .u8 250] 5)) :=
    (((Below.refl w.heap.size w).alloc (Nat.le_refl _) _).alloc (by simp) _).alloc (by simp; omega) _
  have bwf : ∀ k, 0 ≤ [(250 : Int)].getD k 0 ∧ [(250 : Int)].getD k 0 ≤ 255 := by
    intro k
    match k with
    | 0 => exact ⟨by show (0 : Int) ≤ 250; decide, by show (250 : Int) ≤ 255; decide⟩
    | k + 1 => simp
  refine (begin_any _ r hr (w.heap.size + 1 + 1) 1 [250] hlt hcell bwf (by simp)).mono ?_
  clear hcell hlt hrow bwf hx hm
  generalize (((w.alloc (.cells r.cells 28)).alloc (.cells #[.int .u8 248, .int .u8 249, .int .u8 250, .int .u8 251, .int .u8 252, .int .u8 253, .int .u8 245, .int .u8 158, .int .u8 159, .int .u8 152, .int .u8 153, .int .u8 155] 5)).alloc (.cells #[.int .u8 250] 5)) = W0 at hbw ⊢
  rintro e w1 ⟨C, lv, rfl, ho, hb1, hn⟩; dsimp only
  have HB1 := Lib.hid (hbw.trans (hb1.mono hbw.size))
  have HN := Lib.hid (fun k (hk : k < w.heap.size) => hn k (Nat.lt_of_lt_of_le hk hbw.size))
  have sr := ho.sees.r
  have sl := ho.row.lt
  have HO1 := Lib.hid ho
  have HB1s := Lib.hid HB1.out.size
  clear ho hb1 hn hbw
  go_upto_region 33 with fail
  clear sr sl
  rw [fm_cells2 r hr]
  have HX := Lib.hid (Box.new HO1.out (fm r 2).r.cells 28)
  have HO := Lib.hid (HO1.out.alloc (.cells (fm r 2).r.cells 28))
  have HB := Lib.hid (HB1.out.alloc HB1.out.size (.cells (fm r 2).r.cells 28))
  have ST := Lib.hid (fm_step2 r hr C)
  have HST := Lib.hid (fm_state2 r)
  have HE := Lib.hid (eq_regs (fm r 2).r)
  generalize w1.alloc (.cells (fm r 2).r.cells 28) = W at HX HO HB ⊢
  generalize w1.heap.size = b at HX ⊢
  generalize fm r 2 = mm at HX ST HST HE ⊢
  generalize begun r [250] = m0 at HO ST HO1 ⊢
  go_region_with (first
    | (go_at_call 18; refine (awake_any _).mono ?_; rintro e w4 ⟨rfl, hb⟩; have HO4 := Lib.hid (HO.out.drew.below hb); have HX4 := Lib.hid (HX.out.drew.below hb); have HB4 := Lib.hid ((Below.drew HB.out).trans (hb.mono (Below.drew HB.out).size)); clear hb)
    | (go_at_call 25; refine (ST.out _ _ HO4.out).mono ?_; rintro e w5 ⟨rfl, lv5, h5, f5, k5⟩; have HO5 := Lib.hid h5; have HX5 := Lib.hid (HX4.out.step f5 k5); have HB5 := Lib.hid (below_step HB4.out f5 HN.out); clear h5 f5 k5; have sc := HO5.out.sees.c; have sf := HO5.out.sees.f; have sr := HO5.out.sees.r; have ss := HO5.out.sees.s; have sl := HO5.out.sees.l; obtain ⟨xc, xf, xr, xs, xl⟩ := HX5.out.row.sees; have eqr := HE.out)
    | (go_at_call 19; have hs := state_any _ C lv5 _ HO5.out; rw [HST.out] at hs; refine hs.mono ?_; clear hs; rintro e w6 ⟨rfl, rfl⟩))
  all_goals
    go_wp2_with fail
    go_ret
    exact ⟨rfl, HB5.out⟩

set_option maxRecDepth 100000 in
set_option maxHeartbeats 6400000 in
theorem cpuFlags_3 (r : Regs) (hr : r.wf) (how x : Int) (hx : bits .and .i64 how 255 = x) (hm : x.tmod 12 = 3) (w : World) :
    Calls Tryz.prog 9 #[r.val, .int .i64 how] w fun e w' => e = .returned (.bool true) ∧ Below w.heap.size w w' := by
  have ax0 := hr.g0.1
  have ax1 := hr.g0.2
  go_enter Tryz.func9, Tryz.ntmps9
  go_wp2_with fail
  have hrow := Row.new ((w.alloc (.cells r.cells 28)).alloc (.cells #[.int .u8 248, .int .u8 249, .int .u8 250, .int .u8 251, .int .u8 252, .int .u8 253, .int .u8 245, .int .u8 158, .int .u8 159, .int .u8 152, .int .u8 153, .int .u8 155] 5)) #[.int .u8 251] 5
  have hcell : ∀ k, k < [(251 : Int)].length → (((w.alloc (.cells r.cells 28)).alloc (.cells #[.int .u8 248, .int .u8 249, .int .u8 250, .int .u8 251, .int .u8 252, .int .u8 253, .int .u8 245, .int .u8 158, .int .u8 159, .int .u8 152, .int .u8 153, .int .u8 155] 5)).alloc (.cells #[.int .u8 251] 5)).cell? ⟨w.heap.size + 1 + 1, k, none⟩ = some (.int .u8 ([(251 : Int)].getD k 0)) := by
    intro k hk
    have := hrow.cell k
    simp only [World.size_alloc] at this
    rw [this]
    match k, hk with
    | 0, _ => rfl
    | k + 1, h => simp at h
  have hlt : w.heap.size + 1 + 1 < (((w.alloc (.cells r.cells 28)).alloc (.cells #[.int .u8 248, .int .u8 249, .int .u8 250, .int .u8 251, .int .u8 252, .int .u8 253, .int .u8 245, .int .u8 158, .int .u8 159, .int .u8 152, .int .u8 153, .int .u8 155] 5)).alloc (.cells #[.int .u8 251] 5)).heap.size := by
    simp
  have hbw : Below w.heap.size w (((w.alloc (.cells r.cells 28)).alloc (.cells #[.int .u8 248, .int .u8 249, .int .u8 250, .int .u8 251, .int .u8 252, .int .u8 253, .int .u8 245, .int .u8 158, .int .u8 159, .int .u8 152, .int .u8 153, .int .u8 155] 5)).alloc (.cells #[.int .u8 251] 5)) :=
    (((Below.refl w.heap.size w).alloc (Nat.le_refl _) _).alloc (by simp) _).alloc (by simp; omega) _
  have bwf : ∀ k, 0 ≤ [(251 : Int)].getD k 0 ∧ [(251 : Int)].getD k 0 ≤ 255 := by
    intro k
    match k with
    | 0 => exact ⟨by show (0 : Int) ≤ 251; decide, by show (251 : Int) ≤ 255; decide⟩
    | k + 1 => simp
  refine (begin_any _ r hr (w.heap.size + 1 + 1) 1 [251] hlt hcell bwf (by simp)).mono ?_
  clear hcell hlt hrow bwf hx hm
  generalize (((w.alloc (.cells r.cells 28)).alloc (.cells #[.int .u8 248, .int .u8 249, .int .u8 250, .int .u8 251, .int .u8 252, .int .u8 253, .int .u8 245, .int .u8 158, .int .u8 159, .int .u8 152, .int .u8 153, .int .u8 155] 5)).alloc (.cells #[.int .u8 251] 5)) = W0 at hbw ⊢
  rintro e w1 ⟨C, lv, rfl, ho, hb1, hn⟩; dsimp only
  have HB1 := Lib.hid (hbw.trans (hb1.mono hbw.size))
  have HN := Lib.hid (fun k (hk : k < w.heap.size) => hn k (Nat.lt_of_lt_of_le hk hbw.size))
  have sr := ho.sees.r
  have sl := ho.row.lt
  have HO1 := Lib.hid ho
  have HB1s := Lib.hid HB1.out.size
  clear ho hb1 hn hbw
  go_upto_region 33 with fail
  clear sr sl
  rw [fm_cells3 r hr]
  have HX := Lib.hid (Box.new HO1.out (fm r 3).r.cells 28)
  have HO := Lib.hid (HO1.out.alloc (.cells (fm r 3).r.cells 28))
  have HB := Lib.hid (HB1.out.alloc HB1.out.size (.cells (fm r 3).r.cells 28))
  have ST := Lib.hid (fm_step3 r hr C)
  have HST := Lib.hid (fm_state3 r)
  have HE := Lib.hid (eq_regs (fm r 3).r)
  generalize w1.alloc (.cells (fm r 3).r.cells 28) = W at HX HO HB ⊢
  generalize w1.heap.size = b at HX ⊢
  generalize fm r 3 = mm at HX ST HST HE ⊢
  generalize begun r [251] = m0 at HO ST HO1 ⊢
  go_region_with (first
    | (go_at_call 18; refine (awake_any _).mono ?_; rintro e w4 ⟨rfl, hb⟩; have HO4 := Lib.hid (HO.out.drew.below hb); have HX4 := Lib.hid (HX.out.drew.below hb); have HB4 := Lib.hid ((Below.drew HB.out).trans (hb.mono (Below.drew HB.out).size)); clear hb)
    | (go_at_call 25; refine (ST.out _ _ HO4.out).mono ?_; rintro e w5 ⟨rfl, lv5, h5, f5, k5⟩; have HO5 := Lib.hid h5; have HX5 := Lib.hid (HX4.out.step f5 k5); have HB5 := Lib.hid (below_step HB4.out f5 HN.out); clear h5 f5 k5; have sc := HO5.out.sees.c; have sf := HO5.out.sees.f; have sr := HO5.out.sees.r; have ss := HO5.out.sees.s; have sl := HO5.out.sees.l; obtain ⟨xc, xf, xr, xs, xl⟩ := HX5.out.row.sees; have eqr := HE.out)
    | (go_at_call 19; have hs := state_any _ C lv5 _ HO5.out; rw [HST.out] at hs; refine hs.mono ?_; clear hs; rintro e w6 ⟨rfl, rfl⟩))
  all_goals
    go_wp2_with fail
    go_ret
    exact ⟨rfl, HB5.out⟩

set_option maxRecDepth 100000 in
set_option maxHeartbeats 6400000 in
theorem cpuFlags_4 (r : Regs) (hr : r.wf) (how x : Int) (hx : bits .and .i64 how 255 = x) (hm : x.tmod 12 = 4) (w : World) :
    Calls Tryz.prog 9 #[r.val, .int .i64 how] w fun e w' => e = .returned (.bool true) ∧ Below w.heap.size w w' := by
  have ax0 := hr.g0.1
  have ax1 := hr.g0.2
  go_enter Tryz.func9, Tryz.ntmps9
  go_wp2_with fail
  have hrow := Row.new ((w.alloc (.cells r.cells 28)).alloc (.cells #[.int .u8 248, .int .u8 249, .int .u8 250, .int .u8 251, .int .u8 252, .int .u8 253, .int .u8 245, .int .u8 158, .int .u8 159, .int .u8 152, .int .u8 153, .int .u8 155] 5)) #[.int .u8 252] 5
  have hcell : ∀ k, k < [(252 : Int)].length → (((w.alloc (.cells r.cells 28)).alloc (.cells #[.int .u8 248, .int .u8 249, .int .u8 250, .int .u8 251, .int .u8 252, .int .u8 253, .int .u8 245, .int .u8 158, .int .u8 159, .int .u8 152, .int .u8 153, .int .u8 155] 5)).alloc (.cells #[.int .u8 252] 5)).cell? ⟨w.heap.size + 1 + 1, k, none⟩ = some (.int .u8 ([(252 : Int)].getD k 0)) := by
    intro k hk
    have := hrow.cell k
    simp only [World.size_alloc] at this
    rw [this]
    match k, hk with
    | 0, _ => rfl
    | k + 1, h => simp at h
  have hlt : w.heap.size + 1 + 1 < (((w.alloc (.cells r.cells 28)).alloc (.cells #[.int .u8 248, .int .u8 249, .int .u8 250, .int .u8 251, .int .u8 252, .int .u8 253, .int .u8 245, .int .u8 158, .int .u8 159, .int .u8 152, .int .u8 153, .int .u8 155] 5)).alloc (.cells #[.int .u8 252] 5)).heap.size := by
    simp
  have hbw : Below w.heap.size w (((w.alloc (.cells r.cells 28)).alloc (.cells #[.int .u8 248, .int .u8 249, .int .u8 250, .int .u8 251, .int .u8 252, .int .u8 253, .int .u8 245, .int .u8 158, .int .u8 159, .int .u8 152, .int .u8 153, .int .u8 155] 5)).alloc (.cells #[.int .u8 252] 5)) :=
    (((Below.refl w.heap.size w).alloc (Nat.le_refl _) _).alloc (by simp) _).alloc (by simp; omega) _
  have bwf : ∀ k, 0 ≤ [(252 : Int)].getD k 0 ∧ [(252 : Int)].getD k 0 ≤ 255 := by
    intro k
    match k with
    | 0 => exact ⟨by show (0 : Int) ≤ 252; decide, by show (252 : Int) ≤ 255; decide⟩
    | k + 1 => simp
  refine (begin_any _ r hr (w.heap.size + 1 + 1) 1 [252] hlt hcell bwf (by simp)).mono ?_
  clear hcell hlt hrow bwf hx hm
  generalize (((w.alloc (.cells r.cells 28)).alloc (.cells #[.int .u8 248, .int .u8 249, .int .u8 250, .int .u8 251, .int .u8 252, .int .u8 253, .int .u8 245, .int .u8 158, .int .u8 159, .int .u8 152, .int .u8 153, .int .u8 155] 5)).alloc (.cells #[.int .u8 252] 5)) = W0 at hbw ⊢
  rintro e w1 ⟨C, lv, rfl, ho, hb1, hn⟩; dsimp only
  have HB1 := Lib.hid (hbw.trans (hb1.mono hbw.size))
  have HN := Lib.hid (fun k (hk : k < w.heap.size) => hn k (Nat.lt_of_lt_of_le hk hbw.size))
  have sr := ho.sees.r
  have sl := ho.row.lt
  have HO1 := Lib.hid ho
  have HB1s := Lib.hid HB1.out.size
  clear ho hb1 hn hbw
  go_upto_region 33 with fail
  clear sr sl
  rw [fm_cells4 r hr]
  have HX := Lib.hid (Box.new HO1.out (fm r 4).r.cells 28)
  have HO := Lib.hid (HO1.out.alloc (.cells (fm r 4).r.cells 28))
  have HB := Lib.hid (HB1.out.alloc HB1.out.size (.cells (fm r 4).r.cells 28))
  have ST := Lib.hid (fm_step4 r hr C)
  have HST := Lib.hid (fm_state4 r)
  have HE := Lib.hid (eq_regs (fm r 4).r)
  generalize w1.alloc (.cells (fm r 4).r.cells 28) = W at HX HO HB ⊢
  generalize w1.heap.size = b at HX ⊢
  generalize fm r 4 = mm at HX ST HST HE ⊢
  generalize begun r [252] = m0 at HO ST HO1 ⊢
  go_region_with (first
    | (go_at_call 18; refine (awake_any _).mono ?_; rintro e w4 ⟨rfl, hb⟩; have HO4 := Lib.hid (HO.out.drew.below hb); have HX4 := Lib.hid (HX.out.drew.below hb); have HB4 := Lib.hid ((Below.drew HB.out).trans (hb.mono (Below.drew HB.out).size)); clear hb)
    | (go_at_call 25; refine (ST.out _ _ HO4.out).mono ?_; rintro e w5 ⟨rfl, lv5, h5, f5, k5⟩; have HO5 := Lib.hid h5; have HX5 := Lib.hid (HX4.out.step f5 k5); have HB5 := Lib.hid (below_step HB4.out f5 HN.out); clear h5 f5 k5; have sc := HO5.out.sees.c; have sf := HO5.out.sees.f; have sr := HO5.out.sees.r; have ss := HO5.out.sees.s; have sl := HO5.out.sees.l; obtain ⟨xc, xf, xr, xs, xl⟩ := HX5.out.row.sees; have eqr := HE.out)
    | (go_at_call 19; have hs := state_any _ C lv5 _ HO5.out; rw [HST.out] at hs; refine hs.mono ?_; clear hs; rintro e w6 ⟨rfl, rfl⟩))
  all_goals
    go_wp2_with fail
    go_ret
    exact ⟨rfl, HB5.out⟩

end Go.Proofs.YtcglkefaopgjeaaGreatDoor

/- The law CpuFlags. -/
namespace Go.Proofs.YtcglkefaopgjeaaGreatDoor
set_option linter.unusedSimpArgs false
set_option linter.unusedVariables false
open Go.RowKit

set_option maxRecDepth 100000 in
set_option maxHeartbeats 6400000 in
theorem cpuFlags_5 (r : Regs) (hr : r.wf) (how x : Int) (hx : bits .and .i64 how 255 = x) (hm : x.tmod 12 = 5) (w : World) :
    Calls Tryz.prog 9 #[r.val, .int .i64 how] w fun e w' => e = .returned (.bool true) ∧ Below w.heap.size w w' := by
  have ax0 := hr.g0.1
  have ax1 := hr.g0.2
  go_enter Tryz.func9, Tryz.ntmps9
  go_wp2_with fail
  have hrow := Row.new ((w.alloc (.cells r.cells 28)).alloc (.cells #[.int .u8 248, .int .u8 249, .int .u8 250, .int .u8 251, .int .u8 252, .int .u8 253, .int .u8 245, .int .u8 158, .int .u8 159, .int .u8 152, .int .u8 153, .int .u8 155] 5)) #[.int .u8 253] 5
  have hcell : ∀ k, k < [(253 : Int)].length → (((w.alloc (.cells r.cells 28)).alloc (.cells #[.int .u8 248, .int .u8 249, .int .u8 250, .int .u8 251, .int .u8 252, .int .u8 253, .int .u8 245, .int .u8 158, .int .u8 159, .int .u8 152, .int .u8 153, .int .u8 155] 5)).alloc (.cells #[.int .u8 253] 5)).cell? ⟨w.heap.size + 1 + 1, k, none⟩ = some (.int .u8 ([(253 : Int)].getD k 0)) := by
    intro k hk
    have := hrow.cell k
    simp only [World.size_alloc] at this
    rw [this]
    match k, hk with
    | 0, _ => rfl
    | k + 1, h => simp at h
  have hlt : w.heap.size + 1 + 1 < (((w.alloc (.cells r.cells 28)).alloc (.cells #[.int .u8 248, .int .u8 249, .int .u8 250, .int .u8 251, .int .u8 252, .int .u8 253, .int .u8 245, .int .u8 158, .int .u8 159, .int .u8 152, .int .u8 153, .int .u8 155] 5)).alloc (.cells #[.int .u8 253] 5)).heap.size := by
    simp
  have hbw : Below w.heap.size w (((w.alloc (.cells r.cells 28)).alloc (.cells #[.int .u8 248, .int .u8 249, .int .u8 250, .int .u8 251, .int .u8 252, .int .u8 253, .int .u8 245, .int .u8 158, .int .u8 159, .int .u8 152, .int .u8 153, .int .u8 155] 5)).alloc (.cells #[.int .u8 253] 5)) :=
    (((Below.refl w.heap.size w).alloc (Nat.le_refl _) _).alloc (by simp) _).alloc (by simp; omega) _
  have bwf : ∀ k, 0 ≤ [(253 : Int)].getD k 0 ∧ [(253 : Int)].getD k 0 ≤ 255 := by
    intro k
    match k with
    | 0 => exact ⟨by show (0 : Int) ≤ 253; decide, by show (253 : Int) ≤ 255; decide⟩
    | k + 1 => simp
  refine (begin_any _ r hr (w.heap.size + 1 + 1) 1 [253] hlt hcell bwf (by simp)).mono ?_
  clear hcell hlt hrow bwf hx hm
  generalize (((w.alloc (.cells r.cells 28)).alloc (.cells #[.int .u8 248, .int .u8 249, .int .u8 250, .int .u8 251, .int .u8 252, .int .u8 253, .int .u8 245, .int .u8 158, .int .u8 159, .int .u8 152, .int .u8 153, .int .u8 155] 5)).alloc (.cells #[.int .u8 253] 5)) = W0 at hbw ⊢
  rintro e w1 ⟨C, lv, rfl, ho, hb1, hn⟩; dsimp only
  have HB1 := Lib.hid (hbw.trans (hb1.mono hbw.size))
  have HN := Lib.hid (fun k (hk : k < w.heap.size) => hn k (Nat.lt_of_lt_of_le hk hbw.size))
  have sr := ho.sees.r
  have sl := ho.row.lt
  have HO1 := Lib.hid ho
  have HB1s := Lib.hid HB1.out.size
  clear ho hb1 hn hbw
  go_upto_region 33 with fail
  clear sr sl
  rw [fm_cells5 r hr]
  have HX := Lib.hid (Box.new HO1.out (fm r 5).r.cells 28)
  have HO := Lib.hid (HO1.out.alloc (.cells (fm r 5).r.cells 28))
  have HB := Lib.hid (HB1.out.alloc HB1.out.size (.cells (fm r 5).r.cells 28))
  have ST := Lib.hid (fm_step5 r hr C)
  have HST := Lib.hid (fm_state5 r)
  have HE := Lib.hid (eq_regs (fm r 5).r)
  generalize w1.alloc (.cells (fm r 5).r.cells 28) = W at HX HO HB ⊢
  generalize w1.heap.size = b at HX ⊢
  generalize fm r 5 = mm at HX ST HST HE ⊢
  generalize begun r [253] = m0 at HO ST HO1 ⊢
  go_region_with (first
    | (go_at_call 18; refine (awake_any _).mono ?_; rintro e w4 ⟨rfl, hb⟩; have HO4 := Lib.hid (HO.out.drew.below hb); have HX4 := Lib.hid (HX.out.drew.below hb); have HB4 := Lib.hid ((Below.drew HB.out).trans (hb.mono (Below.drew HB.out).size)); clear hb)
    | (go_at_call 25; refine (ST.out _ _ HO4.out).mono ?_; rintro e w5 ⟨rfl, lv5, h5, f5, k5⟩; have HO5 := Lib.hid h5; have HX5 := Lib.hid (HX4.out.step f5 k5); have HB5 := Lib.hid (below_step HB4.out f5 HN.out); clear h5 f5 k5; have sc := HO5.out.sees.c; have sf := HO5.out.sees.f; have sr := HO5.out.sees.r; have ss := HO5.out.sees.s; have sl := HO5.out.sees.l; obtain ⟨xc, xf, xr, xs, xl⟩ := HX5.out.row.sees; have eqr := HE.out)
    | (go_at_call 19; have hs := state_any _ C lv5 _ HO5.out; rw [HST.out] at hs; refine hs.mono ?_; clear hs; rintro e w6 ⟨rfl, rfl⟩))
  all_goals
    go_wp2_with fail
    go_ret
    exact ⟨rfl, HB5.out⟩

set_option maxRecDepth 100000 in
set_option maxHeartbeats 6400000 in
theorem cpuFlags_6 (r : Regs) (hr : r.wf) (how x : Int) (hx : bits .and .i64 how 255 = x) (hm : x.tmod 12 = 6) (w : World) :
    Calls Tryz.prog 9 #[r.val, .int .i64 how] w fun e w' => e = .returned (.bool true) ∧ Below w.heap.size w w' := by
  have ax0 := hr.g0.1
  have ax1 := hr.g0.2
  go_enter Tryz.func9, Tryz.ntmps9
  go_wp2_with fail
  have hrow := Row.new ((w.alloc (.cells r.cells 28)).alloc (.cells #[.int .u8 248, .int .u8 249, .int .u8 250, .int .u8 251, .int .u8 252, .int .u8 253, .int .u8 245, .int .u8 158, .int .u8 159, .int .u8 152, .int .u8 153, .int .u8 155] 5)) #[.int .u8 245] 5
  have hcell : ∀ k, k < [(245 : Int)].length → (((w.alloc (.cells r.cells 28)).alloc (.cells #[.int .u8 248, .int .u8 249, .int .u8 250, .int .u8 251, .int .u8 252, .int .u8 253, .int .u8 245, .int .u8 158, .int .u8 159, .int .u8 152, .int .u8 153, .int .u8 155] 5)).alloc (.cells #[.int .u8 245] 5)).cell? ⟨w.heap.size + 1 + 1, k, none⟩ = some (.int .u8 ([(245 : Int)].getD k 0)) := by
    intro k hk
    have := hrow.cell k
    simp only [World.size_alloc] at this
    rw [this]
    match k, hk with
    | 0, _ => rfl
    | k + 1, h => simp at h
  have hlt : w.heap.size + 1 + 1 < (((w.alloc (.cells r.cells 28)).alloc (.cells #[.int .u8 248, .int .u8 249, .int .u8 250, .int .u8 251, .int .u8 252, .int .u8 253, .int .u8 245, .int .u8 158, .int .u8 159, .int .u8 152, .int .u8 153, .int .u8 155] 5)).alloc (.cells #[.int .u8 245] 5)).heap.size := by
    simp
  have hbw : Below w.heap.size w (((w.alloc (.cells r.cells 28)).alloc (.cells #[.int .u8 248, .int .u8 249, .int .u8 250, .int .u8 251, .int .u8 252, .int .u8 253, .int .u8 245, .int .u8 158, .int .u8 159, .int .u8 152, .int .u8 153, .int .u8 155] 5)).alloc (.cells #[.int .u8 245] 5)) :=
    (((Below.refl w.heap.size w).alloc (Nat.le_refl _) _).alloc (by simp) _).alloc (by simp; omega) _
  have bwf : ∀ k, 0 ≤ [(245 : Int)].getD k 0 ∧ [(245 : Int)].getD k 0 ≤ 255 := by
    intro k
    match k with
    | 0 => exact ⟨by show (0 : Int) ≤ 245; decide, by show (245 : Int) ≤ 255; decide⟩
    | k + 1 => simp
  refine (begin_any _ r hr (w.heap.size + 1 + 1) 1 [245] hlt hcell bwf (by simp)).mono ?_
  clear hcell hlt hrow bwf hx hm
  generalize (((w.alloc (.cells r.cells 28)).alloc (.cells #[.int .u8 248, .int .u8 249, .int .u8 250, .int .u8 251, .int .u8 252, .int .u8 253, .int .u8 245, .int .u8 158, .int .u8 159, .int .u8 152, .int .u8 153, .int .u8 155] 5)).alloc (.cells #[.int .u8 245] 5)) = W0 at hbw ⊢
  rintro e w1 ⟨C, lv, rfl, ho, hb1, hn⟩; dsimp only
  have HB1 := Lib.hid (hbw.trans (hb1.mono hbw.size))
  have HN := Lib.hid (fun k (hk : k < w.heap.size) => hn k (Nat.lt_of_lt_of_le hk hbw.size))
  have sr := ho.sees.r
  have sl := ho.row.lt
  have HO1 := Lib.hid ho
  have HB1s := Lib.hid HB1.out.size
  clear ho hb1 hn hbw
  go_upto_region 33 with fail
  clear sr sl
  rw [fm_cells6 r hr]
  have HX := Lib.hid (Box.new HO1.out (fm r 6).r.cells 28)
  have HO := Lib.hid (HO1.out.alloc (.cells (fm r 6).r.cells 28))
  have HB := Lib.hid (HB1.out.alloc HB1.out.size (.cells (fm r 6).r.cells 28))
  have ST := Lib.hid (fm_step6 r hr C)
  have HST := Lib.hid (fm_state6 r)
  have HE := Lib.hid (eq_regs (fm r 6).r)
  generalize w1.alloc (.cells (fm r 6).r.cells 28) = W at HX HO HB ⊢
  generalize w1.heap.size = b at HX ⊢
  generalize fm r 6 = mm at HX ST HST HE ⊢
  generalize begun r [245] = m0 at HO ST HO1 ⊢
  go_region_with (first
    | (go_at_call 18; refine (awake_any _).mono ?_; rintro e w4 ⟨rfl, hb⟩; have HO4 := Lib.hid (HO.out.drew.below hb); have HX4 := Lib.hid (HX.out.drew.below hb); have HB4 := Lib.hid ((Below.drew HB.out).trans (hb.mono (Below.drew HB.out).size)); clear hb)
    | (go_at_call 25; refine (ST.out _ _ HO4.out).mono ?_; rintro e w5 ⟨rfl, lv5, h5, f5, k5⟩; have HO5 := Lib.hid h5; have HX5 := Lib.hid (HX4.out.step f5 k5); have HB5 := Lib.hid (below_step HB4.out f5 HN.out); clear h5 f5 k5; have sc := HO5.out.sees.c; have sf := HO5.out.sees.f; have sr := HO5.out.sees.r; have ss := HO5.out.sees.s; have sl := HO5.out.sees.l; obtain ⟨xc, xf, xr, xs, xl⟩ := HX5.out.row.sees; have eqr := HE.out)
    | (go_at_call 19; have hs := state_any _ C lv5 _ HO5.out; rw [HST.out] at hs; refine hs.mono ?_; clear hs; rintro e w6 ⟨rfl, rfl⟩))
  all_goals
    go_wp2_with fail
    go_ret
    exact ⟨rfl, HB5.out⟩

set_option maxRecDepth 100000 in
set_option maxHeartbeats 6400000 in
theorem cpuFlags_7 (r : Regs) (hr : r.wf) (how x : Int) (hx : bits .and .i64 how 255 = x) (hm : x.tmod 12 = 7) (w : World) :
    Calls Tryz.prog 9 #[r.val, .int .i64 how] w fun e w' => e = .returned (.bool true) ∧ Below w.heap.size w w' := by
  have ax0 := hr.g0.1
  have ax1 := hr.g0.2
  go_enter Tryz.func9, Tryz.ntmps9
  go_wp2_with fail
  have hrow := Row.new ((w.alloc (.cells r.cells 28)).alloc (.cells #[.int .u8 248, .int .u8 249, .int .u8 250, .int .u8 251, .int .u8 252, .int .u8 253, .int .u8 245, .int .u8 158, .int .u8 159, .int .u8 152, .int .u8 153, .int .u8 155] 5)) #[.int .u8 158] 5
  have hcell : ∀ k, k < [(158 : Int)].length → (((w.alloc (.cells r.cells 28)).alloc (.cells #[.int .u8 248, .int .u8 249, .int .u8 250, .int .u8 251, .int .u8 252, .int .u8 253, .int .u8 245, .int .u8 158, .int .u8 159, .int .u8 152, .int .u8 153, .int .u8 155] 5)).alloc (.cells #[.int .u8 158] 5)).cell? ⟨w.heap.size + 1 + 1, k, none⟩ = some (.int .u8 ([(158 : Int)].getD k 0)) := by
    intro k hk
    have := hrow.cell k
    simp only [World.size_alloc] at this
    rw [this]
    match k, hk with
    | 0, _ => rfl
    | k + 1, h => simp at h
  have hlt : w.heap.size + 1 + 1 < (((w.alloc (.cells r.cells 28)).alloc (.cells #[.int .u8 248, .int .u8 249, .int .u8 250, .int .u8 251, .int .u8 252, .int .u8 253, .int .u8 245, .int .u8 158, .int .u8 159, .int .u8 152, .int .u8 153, .int .u8 155] 5)).alloc (.cells #[.int .u8 158] 5)).heap.size := by
    simp
  have hbw : Below w.heap.size w (((w.alloc (.cells r.cells 28)).alloc (.cells #[.int .u8 248, .int .u8 249, .int .u8 250, .int .u8 251, .int .u8 252, .int .u8 253, .int .u8 245, .int .u8 158, .int .u8 159, .int .u8 152, .int .u8 153, .int .u8 155] 5)).alloc (.cells #[.int .u8 158] 5)) :=
    (((Below.refl w.heap.size w).alloc (Nat.le_refl _) _).alloc (by simp) _).alloc (by simp; omega) _
  have bwf : ∀ k, 0 ≤ [(158 : Int)].getD k 0 ∧ [(158 : Int)].getD k 0 ≤ 255 := by
    intro k
    match k with
    | 0 => exact ⟨by show (0 : Int) ≤ 158; decide, by show (158 : Int) ≤ 255; decide⟩
    | k + 1 => simp
  refine (begin_any _ r hr (w.heap.size + 1 + 1) 1 [158] hlt hcell bwf (by simp)).mono ?_
  clear hcell hlt hrow bwf hx hm
  generalize (((w.alloc (.cells r.cells 28)).alloc (.cells #[.int .u8 248, .int .u8 249, .int .u8 250, .int .u8 251, .int .u8 252, .int .u8 253, .int .u8 245, .int .u8 158, .int .u8 159, .int .u8 152, .int .u8 153, .int .u8 155] 5)).alloc (.cells #[.int .u8 158] 5)) = W0 at hbw ⊢
  rintro e w1 ⟨C, lv, rfl, ho, hb1, hn⟩; dsimp only
  have HB1 := Lib.hid (hbw.trans (hb1.mono hbw.size))
  have HN := Lib.hid (fun k (hk : k < w.heap.size) => hn k (Nat.lt_of_lt_of_le hk hbw.size))
  have sr := ho.sees.r
  have sl := ho.row.lt
  have HO1 := Lib.hid ho
  have HB1s := Lib.hid HB1.out.size
  clear ho hb1 hn hbw
  go_upto_region 33 with fail
  clear sr sl
  rw [fm_cells7 r hr]
  have HX := Lib.hid (Box.new HO1.out (fm r 7).r.cells 28)
  have HO := Lib.hid (HO1.out.alloc (.cells (fm r 7).r.cells 28))
  have HB := Lib.hid (HB1.out.alloc HB1.out.size (.cells (fm r 7).r.cells 28))
  have ST := Lib.hid (fm_step7 r hr C)
  have HST := Lib.hid (fm_state7 r)
  have HE := Lib.hid (eq_regs (fm r 7).r)
  generalize w1.alloc (.cells (fm r 7).r.cells 28) = W at HX HO HB ⊢
  generalize w1.heap.size = b at HX ⊢
  generalize fm r 7 = mm at HX ST HST HE ⊢
  generalize begun r [158] = m0 at HO ST HO1 ⊢
  go_region_with (first
    | (go_at_call 18; refine (awake_any _).mono ?_; rintro e w4 ⟨rfl, hb⟩; have HO4 := Lib.hid (HO.out.drew.below hb); have HX4 := Lib.hid (HX.out.drew.below hb); have HB4 := Lib.hid ((Below.drew HB.out).trans (hb.mono (Below.drew HB.out).size)); clear hb)
    | (go_at_call 25; refine (ST.out _ _ HO4.out).mono ?_; rintro e w5 ⟨rfl, lv5, h5, f5, k5⟩; have HO5 := Lib.hid h5; have HX5 := Lib.hid (HX4.out.step f5 k5); have HB5 := Lib.hid (below_step HB4.out f5 HN.out); clear h5 f5 k5; have sc := HO5.out.sees.c; have sf := HO5.out.sees.f; have sr := HO5.out.sees.r; have ss := HO5.out.sees.s; have sl := HO5.out.sees.l; obtain ⟨xc, xf, xr, xs, xl⟩ := HX5.out.row.sees; have eqr := HE.out)
    | (go_at_call 19; have hs := state_any _ C lv5 _ HO5.out; rw [HST.out] at hs; refine hs.mono ?_; clear hs; rintro e w6 ⟨rfl, rfl⟩))
  all_goals
    go_wp2_with fail
    go_ret
    exact ⟨rfl, HB5.out⟩

set_option maxRecDepth 100000 in
set_option maxHeartbeats 6400000 in
theorem cpuFlags_8 (r : Regs) (hr : r.wf) (how x : Int) (hx : bits .and .i64 how 255 = x) (hm : x.tmod 12 = 8) (w : World) :
    Calls Tryz.prog 9 #[r.val, .int .i64 how] w fun e w' => e = .returned (.bool true) ∧ Below w.heap.size w w' := by
  have ax0 := hr.g0.1
  have ax1 := hr.g0.2
  go_enter Tryz.func9, Tryz.ntmps9
  go_wp2_with fail
  have hrow := Row.new ((w.alloc (.cells r.cells 28)).alloc (.cells #[.int .u8 248, .int .u8 249, .int .u8 250, .int .u8 251, .int .u8 252, .int .u8 253, .int .u8 245, .int .u8 158, .int .u8 159, .int .u8 152, .int .u8 153, .int .u8 155] 5)) #[.int .u8 159] 5
  have hcell : ∀ k, k < [(159 : Int)].length → (((w.alloc (.cells r.cells 28)).alloc (.cells #[.int .u8 248, .int .u8 249, .int .u8 250, .int .u8 251, .int .u8 252, .int .u8 253, .int .u8 245, .int .u8 158, .int .u8 159, .int .u8 152, .int .u8 153, .int .u8 155] 5)).alloc (.cells #[.int .u8 159] 5)).cell? ⟨w.heap.size + 1 + 1, k, none⟩ = some (.int .u8 ([(159 : Int)].getD k 0)) := by
    intro k hk
    have := hrow.cell k
    simp only [World.size_alloc] at this
    rw [this]
    match k, hk with
    | 0, _ => rfl
    | k + 1, h => simp at h
  have hlt : w.heap.size + 1 + 1 < (((w.alloc (.cells r.cells 28)).alloc (.cells #[.int .u8 248, .int .u8 249, .int .u8 250, .int .u8 251, .int .u8 252, .int .u8 253, .int .u8 245, .int .u8 158, .int .u8 159, .int .u8 152, .int .u8 153, .int .u8 155] 5)).alloc (.cells #[.int .u8 159] 5)).heap.size := by
    simp
  have hbw : Below w.heap.size w (((w.alloc (.cells r.cells 28)).alloc (.cells #[.int .u8 248, .int .u8 249, .int .u8 250, .int .u8 251, .int .u8 252, .int .u8 253, .int .u8 245, .int .u8 158, .int .u8 159, .int .u8 152, .int .u8 153, .int .u8 155] 5)).alloc (.cells #[.int .u8 159] 5)) :=
    (((Below.refl w.heap.size w).alloc (Nat.le_refl _) _).alloc (by simp) _).alloc (by simp; omega) _
  have bwf : ∀ k, 0 ≤ [(159 : Int)].getD k 0 ∧ [(159 : Int)].getD k 0 ≤ 255 := by
    intro k
    match k with
    | 0 => exact ⟨by show (0 : Int) ≤ 159; decide, by show (159 : Int) ≤ 255; decide⟩
    | k + 1 => simp
  refine (begin_any _ r hr (w.heap.size + 1 + 1) 1 [159] hlt hcell bwf (by simp)).mono ?_
  clear hcell hlt hrow bwf hx hm
  generalize (((w.alloc (.cells r.cells 28)).alloc (.cells #[.int .u8 248, .int .u8 249, .int .u8 250, .int .u8 251, .int .u8 252, .int .u8 253, .int .u8 245, .int .u8 158, .int .u8 159, .int .u8 152, .int .u8 153, .int .u8 155] 5)).alloc (.cells #[.int .u8 159] 5)) = W0 at hbw ⊢
  rintro e w1 ⟨C, lv, rfl, ho, hb1, hn⟩; dsimp only
  have HB1 := Lib.hid (hbw.trans (hb1.mono hbw.size))
  have HN := Lib.hid (fun k (hk : k < w.heap.size) => hn k (Nat.lt_of_lt_of_le hk hbw.size))
  have sr := ho.sees.r
  have sl := ho.row.lt
  have HO1 := Lib.hid ho
  have HB1s := Lib.hid HB1.out.size
  clear ho hb1 hn hbw
  go_upto_region 33 with fail
  clear sr sl
  rw [fm_cells8 r hr]
  have HX := Lib.hid (Box.new HO1.out (fm r 8).r.cells 28)
  have HO := Lib.hid (HO1.out.alloc (.cells (fm r 8).r.cells 28))
  have HB := Lib.hid (HB1.out.alloc HB1.out.size (.cells (fm r 8).r.cells 28))
  have ST := Lib.hid (fm_step8 r hr C)
  have HST := Lib.hid (fm_state8 r)
  have HE := Lib.hid (eq_regs (fm r 8).r)
  generalize w1.alloc (.cells (fm r 8).r.cells 28) = W at HX HO HB ⊢
  generalize w1.heap.size = b at HX ⊢
  generalize fm r 8 = mm at HX ST HST HE ⊢
  generalize begun r [159] = m0 at HO ST HO1 ⊢
  go_region_with (first
    | (go_at_call 18; refine (awake_any _).mono ?_; rintro e w4 ⟨rfl, hb⟩; have HO4 := Lib.hid (HO.out.drew.below hb); have HX4 := Lib.hid (HX.out.drew.below hb); have HB4 := Lib.hid ((Below.drew HB.out).trans (hb.mono (Below.drew HB.out).size)); clear hb)
    | (go_at_call 25; refine (ST.out _ _ HO4.out).mono ?_; rintro e w5 ⟨rfl, lv5, h5, f5, k5⟩; have HO5 := Lib.hid h5; have HX5 := Lib.hid (HX4.out.step f5 k5); have HB5 := Lib.hid (below_step HB4.out f5 HN.out); clear h5 f5 k5; have sc := HO5.out.sees.c; have sf := HO5.out.sees.f; have sr := HO5.out.sees.r; have ss := HO5.out.sees.s; have sl := HO5.out.sees.l; obtain ⟨xc, xf, xr, xs, xl⟩ := HX5.out.row.sees; have eqr := HE.out)
    | (go_at_call 19; have hs := state_any _ C lv5 _ HO5.out; rw [HST.out] at hs; refine hs.mono ?_; clear hs; rintro e w6 ⟨rfl, rfl⟩))
  all_goals
    go_wp2_with fail
    go_ret
    exact ⟨rfl, HB5.out⟩

set_option maxRecDepth 100000 in
set_option maxHeartbeats 6400000 in
theorem cpuFlags_11 (r : Regs) (hr : r.wf) (how x : Int) (hx : bits .and .i64 how 255 = x) (hm : x.tmod 12 = 11) (w : World) :
    Calls Tryz.prog 9 #[r.val, .int .i64 how] w fun e w' => e = .returned (.bool true) ∧ Below w.heap.size w w' := by
  have ax0 := hr.g0.1
  have ax1 := hr.g0.2
  go_enter Tryz.func9, Tryz.ntmps9
  go_wp2_with fail
  have hrow := Row.new ((w.alloc (.cells r.cells 28)).alloc (.cells #[.int .u8 248, .int .u8 249, .int .u8 250, .int .u8 251, .int .u8 252, .int .u8 253, .int .u8 245, .int .u8 158, .int .u8 159, .int .u8 152, .int .u8 153, .int .u8 155] 5)) #[.int .u8 155] 5
  have hcell : ∀ k, k < [(155 : Int)].length → (((w.alloc (.cells r.cells 28)).alloc (.cells #[.int .u8 248, .int .u8 249, .int .u8 250, .int .u8 251, .int .u8 252, .int .u8 253, .int .u8 245, .int .u8 158, .int .u8 159, .int .u8 152, .int .u8 153, .int .u8 155] 5)).alloc (.cells #[.int .u8 155] 5)).cell? ⟨w.heap.size + 1 + 1, k, none⟩ = some (.int .u8 ([(155 : Int)].getD k 0)) := by
    intro k hk
    have := hrow.cell k
    simp only [World.size_alloc] at this
    rw [this]
    match k, hk with
    | 0, _ => rfl
    | k + 1, h => simp at h
  have hlt : w.heap.size + 1 + 1 < (((w.alloc (.cells r.cells 28)).alloc (.cells #[.int .u8 248, .int .u8 249, .int .u8 250, .int .u8 251, .int .u8 252, .int .u8 253, .int .u8 245, .int .u8 158, .int .u8 159, .int .u8 152, .int .u8 153, .int .u8 155] 5)).alloc (.cells #[.int .u8 155] 5)).heap.size := by
    simp
  have hbw : Below w.heap.size w (((w.alloc (.cells r.cells 28)).alloc (.cells #[.int .u8 248, .int .u8 249, .int .u8 250, .int .u8 251, .int .u8 252, .int .u8 253, .int .u8 245, .int .u8 158, .int .u8 159, .int .u8 152, .int .u8 153, .int .u8 155] 5)).alloc (.cells #[.int .u8 155] 5)) :=
    (((Below.refl w.heap.size w).alloc (Nat.le_refl _) _).alloc (by simp) _).alloc (by simp; omega) _
  have bwf : ∀ k, 0 ≤ [(155 : Int)].getD k 0 ∧ [(155 : Int)].getD k 0 ≤ 255 := by
    intro k
    match k with
    | 0 => exact ⟨by show (0 : Int) ≤ 155; decide, by show (155 : Int) ≤ 255; decide⟩
    | k + 1 => simp
  refine (begin_any _ r hr (w.heap.size + 1 + 1) 1 [155] hlt hcell bwf (by simp)).mono ?_
  clear hcell hlt hrow bwf hx hm
  generalize (((w.alloc (.cells r.cells 28)).alloc (.cells #[.int .u8 248, .int .u8 249, .int .u8 250, .int .u8 251, .int .u8 252, .int .u8 253, .int .u8 245, .int .u8 158, .int .u8 159, .int .u8 152, .int .u8 153, .int .u8 155] 5)).alloc (.cells #[.int .u8 155] 5)) = W0 at hbw ⊢
  rintro e w1 ⟨C, lv, rfl, ho, hb1, hn⟩; dsimp only
  have HB1 := Lib.hid (hbw.trans (hb1.mono hbw.size))
  have HN := Lib.hid (fun k (hk : k < w.heap.size) => hn k (Nat.lt_of_lt_of_le hk hbw.size))
  have sr := ho.sees.r
  have sl := ho.row.lt
  have HO1 := Lib.hid ho
  have HB1s := Lib.hid HB1.out.size
  clear ho hb1 hn hbw
  go_upto_region 33 with fail
  clear sr sl
  rw [fm_cells11 r hr]
  have HX := Lib.hid (Box.new HO1.out (fm r 11).r.cells 28)
  have HO := Lib.hid (HO1.out.alloc (.cells (fm r 11).r.cells 28))
  have HB := Lib.hid (HB1.out.alloc HB1.out.size (.cells (fm r 11).r.cells 28))
  have ST := Lib.hid (fm_step11 r hr C)
  have HST := Lib.hid (fm_state11 r)
  have HE := Lib.hid (eq_regs (fm r 11).r)
  generalize w1.alloc (.cells (fm r 11).r.cells 28) = W at HX HO HB ⊢
  generalize w1.heap.size = b at HX ⊢
  generalize fm r 11 = mm at HX ST HST HE ⊢
  generalize begun r [155] = m0 at HO ST HO1 ⊢
  go_region_with (first
    | (go_at_call 18; refine (awake_any _).mono ?_; rintro e w4 ⟨rfl, hb⟩; have HO4 := Lib.hid (HO.out.drew.below hb); have HX4 := Lib.hid (HX.out.drew.below hb); have HB4 := Lib.hid ((Below.drew HB.out).trans (hb.mono (Below.drew HB.out).size)); clear hb)
    | (go_at_call 25; refine (ST.out _ _ HO4.out).mono ?_; rintro e w5 ⟨rfl, lv5, h5, f5, k5⟩; have HO5 := Lib.hid h5; have HX5 := Lib.hid (HX4.out.step f5 k5); have HB5 := Lib.hid (below_step HB4.out f5 HN.out); clear h5 f5 k5; have sc := HO5.out.sees.c; have sf := HO5.out.sees.f; have sr := HO5.out.sees.r; have ss := HO5.out.sees.s; have sl := HO5.out.sees.l; obtain ⟨xc, xf, xr, xs, xl⟩ := HX5.out.row.sees; have eqr := HE.out)
    | (go_at_call 19; have hs := state_any _ C lv5 _ HO5.out; rw [HST.out] at hs; refine hs.mono ?_; clear hs; rintro e w6 ⟨rfl, rfl⟩))
  all_goals
    go_wp2_with fail
    go_ret
    exact ⟨rfl, HB5.out⟩

end Go.Proofs.YtcglkefaopgjeaaGreatDoor

/- The law CpuFlags. -/
namespace Go.Proofs.YtcglkefaopgjeaaGreatDoor
set_option linter.unusedSimpArgs false
set_option linter.unusedVariables false
open Go.RowKit

set_option maxRecDepth 100000 in
set_option maxHeartbeats 6400000 in
theorem cpuFlags_9a (r : Regs) (hr : r.wf) (how x : Int) (hx : bits .and .i64 how 255 = x) (hm : x.tmod 12 = 9) (hs : r.g0.v % 256 ≤ 127) (w : World) :
    Calls Tryz.prog 9 #[r.val, .int .i64 how] w fun e w' => e = .returned (.bool true) ∧ Below w.heap.size w w' := by
  have ax0 := hr.g0.1
  have ax1 := hr.g0.2
  have gt : decide (127 < (begun r [152]).r.g0.v.tmod 256) = false := by
    show decide (127 < r.g0.v.tmod 256) = _; rw [Int.tmod_eq_emod_of_nonneg ax0]; simp only [decide_eq_false_iff_not]; omega
  go_enter Tryz.func9, Tryz.ntmps9
  go_wp2_with fail
  have hrow := Row.new ((w.alloc (.cells r.cells 28)).alloc (.cells #[.int .u8 248, .int .u8 249, .int .u8 250, .int .u8 251, .int .u8 252, .int .u8 253, .int .u8 245, .int .u8 158, .int .u8 159, .int .u8 152, .int .u8 153, .int .u8 155] 5)) #[.int .u8 152] 5
  have hcell : ∀ k, k < [(152 : Int)].length → (((w.alloc (.cells r.cells 28)).alloc (.cells #[.int .u8 248, .int .u8 249, .int .u8 250, .int .u8 251, .int .u8 252, .int .u8 253, .int .u8 245, .int .u8 158, .int .u8 159, .int .u8 152, .int .u8 153, .int .u8 155] 5)).alloc (.cells #[.int .u8 152] 5)).cell? ⟨w.heap.size + 1 + 1, k, none⟩ = some (.int .u8 ([(152 : Int)].getD k 0)) := by
    intro k hk
    have := hrow.cell k
    simp only [World.size_alloc] at this
    rw [this]
    match k, hk with
    | 0, _ => rfl
    | k + 1, h => simp at h
  have hlt : w.heap.size + 1 + 1 < (((w.alloc (.cells r.cells 28)).alloc (.cells #[.int .u8 248, .int .u8 249, .int .u8 250, .int .u8 251, .int .u8 252, .int .u8 253, .int .u8 245, .int .u8 158, .int .u8 159, .int .u8 152, .int .u8 153, .int .u8 155] 5)).alloc (.cells #[.int .u8 152] 5)).heap.size := by
    simp
  have hbw : Below w.heap.size w (((w.alloc (.cells r.cells 28)).alloc (.cells #[.int .u8 248, .int .u8 249, .int .u8 250, .int .u8 251, .int .u8 252, .int .u8 253, .int .u8 245, .int .u8 158, .int .u8 159, .int .u8 152, .int .u8 153, .int .u8 155] 5)).alloc (.cells #[.int .u8 152] 5)) :=
    (((Below.refl w.heap.size w).alloc (Nat.le_refl _) _).alloc (by simp) _).alloc (by simp; omega) _
  have bwf : ∀ k, 0 ≤ [(152 : Int)].getD k 0 ∧ [(152 : Int)].getD k 0 ≤ 255 := by
    intro k
    match k with
    | 0 => exact ⟨by show (0 : Int) ≤ 152; decide, by show (152 : Int) ≤ 255; decide⟩
    | k + 1 => simp
  refine (begin_any _ r hr (w.heap.size + 1 + 1) 1 [152] hlt hcell bwf (by simp)).mono ?_
  clear hcell hlt hrow bwf hx hm
  generalize (((w.alloc (.cells r.cells 28)).alloc (.cells #[.int .u8 248, .int .u8 249, .int .u8 250, .int .u8 251, .int .u8 252, .int .u8 253, .int .u8 245, .int .u8 158, .int .u8 159, .int .u8 152, .int .u8 153, .int .u8 155] 5)).alloc (.cells #[.int .u8 152] 5)) = W0 at hbw ⊢
  rintro e w1 ⟨C, lv, rfl, ho, hb1, hn⟩; dsimp only
  have HB1 := Lib.hid (hbw.trans (hb1.mono hbw.size))
  have HN := Lib.hid (fun k (hk : k < w.heap.size) => hn k (Nat.lt_of_lt_of_le hk hbw.size))
  have sr := ho.sees.r
  have sl := ho.row.lt
  have HO1 := Lib.hid ho
  have HB1s := Lib.hid HB1.out.size
  clear ho hb1 hn hbw
  go_upto_region 33 with fail
  clear sr sl
  rw [fm_cells9a r hr hs]
  have HX := Lib.hid (Box.new HO1.out (fm r 9).r.cells 28)
  have HO := Lib.hid (HO1.out.alloc (.cells (fm r 9).r.cells 28))
  have HB := Lib.hid (HB1.out.alloc HB1.out.size (.cells (fm r 9).r.cells 28))
  have ST := Lib.hid (fm_step9 r hr C)
  have HST := Lib.hid (fm_state9 r)
  have HE := Lib.hid (eq_regs (fm r 9).r)
  generalize w1.alloc (.cells (fm r 9).r.cells 28) = W at HX HO HB ⊢
  generalize w1.heap.size = b at HX ⊢
  generalize fm r 9 = mm at HX ST HST HE ⊢
  generalize begun r [152] = m0 at HO ST HO1 ⊢
  go_region_with (first
    | (go_at_call 18; refine (awake_any _).mono ?_; rintro e w4 ⟨rfl, hb⟩; have HO4 := Lib.hid (HO.out.drew.below hb); have HX4 := Lib.hid (HX.out.drew.below hb); have HB4 := Lib.hid ((Below.drew HB.out).trans (hb.mono (Below.drew HB.out).size)); clear hb)
    | (go_at_call 25; refine (ST.out _ _ HO4.out).mono ?_; rintro e w5 ⟨rfl, lv5, h5, f5, k5⟩; have HO5 := Lib.hid h5; have HX5 := Lib.hid (HX4.out.step f5 k5); have HB5 := Lib.hid (below_step HB4.out f5 HN.out); clear h5 f5 k5; have sc := HO5.out.sees.c; have sf := HO5.out.sees.f; have sr := HO5.out.sees.r; have ss := HO5.out.sees.s; have sl := HO5.out.sees.l; obtain ⟨xc, xf, xr, xs, xl⟩ := HX5.out.row.sees; have eqr := HE.out)
    | (go_at_call 19; have hs := state_any _ C lv5 _ HO5.out; rw [HST.out] at hs; refine hs.mono ?_; clear hs; rintro e w6 ⟨rfl, rfl⟩))
  all_goals
    go_wp2_with fail
    go_ret
    exact ⟨rfl, HB5.out⟩

set_option maxRecDepth 100000 in
set_option maxHeartbeats 6400000 in
theorem cpuFlags_9b (r : Regs) (hr : r.wf) (how x : Int) (hx : bits .and .i64 how 255 = x) (hm : x.tmod 12 = 9) (hs : 127 < r.g0.v % 256) (w : World) :
    Calls Tryz.prog 9 #[r.val, .int .i64 how] w fun e w' => e = .returned (.bool true) ∧ Below w.heap.size w w' := by
  have ax0 := hr.g0.1
  have ax1 := hr.g0.2
  have gt : decide (127 < (begun r [152]).r.g0.v.tmod 256) = true := by
    show decide (127 < r.g0.v.tmod 256) = _; rw [Int.tmod_eq_emod_of_nonneg ax0]; simp only [decide_eq_true_eq]; omega
  go_enter Tryz.func9, Tryz.ntmps9
  go_wp2_with fail
  have hrow := Row.new ((w.alloc (.cells r.cells 28)).alloc (.cells #[.int .u8 248, .int .u8 249, .int .u8 250, .int .u8 251, .int .u8 252, .int .u8 253, .int .u8 245, .int .u8 158, .int .u8 159, .int .u8 152, .int .u8 153, .int .u8 155] 5)) #[.int .u8 152] 5
  have hcell : ∀ k, k < [(152 : Int)].length → (((w.alloc (.cells r.cells 28)).alloc (.cells #[.int .u8 248, .int .u8 249, .int .u8 250, .int .u8 251, .int .u8 252, .int .u8 253, .int .u8 245, .int .u8 158, .int .u8 159, .int .u8 152, .int .u8 153, .int .u8 155] 5)).alloc (.cells #[.int .u8 152] 5)).cell? ⟨w.heap.size + 1 + 1, k, none⟩ = some (.int .u8 ([(152 : Int)].getD k 0)) := by
    intro k hk
    have := hrow.cell k
    simp only [World.size_alloc] at this
    rw [this]
    match k, hk with
    | 0, _ => rfl
    | k + 1, h => simp at h
  have hlt : w.heap.size + 1 + 1 < (((w.alloc (.cells r.cells 28)).alloc (.cells #[.int .u8 248, .int .u8 249, .int .u8 250, .int .u8 251, .int .u8 252, .int .u8 253, .int .u8 245, .int .u8 158, .int .u8 159, .int .u8 152, .int .u8 153, .int .u8 155] 5)).alloc (.cells #[.int .u8 152] 5)).heap.size := by
    simp
  have hbw : Below w.heap.size w (((w.alloc (.cells r.cells 28)).alloc (.cells #[.int .u8 248, .int .u8 249, .int .u8 250, .int .u8 251, .int .u8 252, .int .u8 253, .int .u8 245, .int .u8 158, .int .u8 159, .int .u8 152, .int .u8 153, .int .u8 155] 5)).alloc (.cells #[.int .u8 152] 5)) :=
    (((Below.refl w.heap.size w).alloc (Nat.le_refl _) _).alloc (by simp) _).alloc (by simp; omega) _
  have bwf : ∀ k, 0 ≤ [(152 : Int)].getD k 0 ∧ [(152 : Int)].getD k 0 ≤ 255 := by
    intro k
    match k with
    | 0 => exact ⟨by show (0 : Int) ≤ 152; decide, by show (152 : Int) ≤ 255; decide⟩
    | k + 1 => simp
  refine (begin_any _ r hr (w.heap.size + 1 + 1) 1 [152] hlt hcell bwf (by simp)).mono ?_
  clear hcell hlt hrow bwf hx hm
  generalize (((w.alloc (.cells r.cells 28)).alloc (.cells #[.int .u8 248, .int .u8 249, .int .u8 250, .int .u8 251, .int .u8 252, .int .u8 253, .int .u8 245, .int .u8 158, .int .u8 159, .int .u8 152, .int .u8 153, .int .u8 155] 5)).alloc (.cells #[.int .u8 152] 5)) = W0 at hbw ⊢
  rintro e w1 ⟨C, lv, rfl, ho, hb1, hn⟩; dsimp only
  have HB1 := Lib.hid (hbw.trans (hb1.mono hbw.size))
  have HN := Lib.hid (fun k (hk : k < w.heap.size) => hn k (Nat.lt_of_lt_of_le hk hbw.size))
  have sr := ho.sees.r
  have sl := ho.row.lt
  have HO1 := Lib.hid ho
  have HB1s := Lib.hid HB1.out.size
  clear ho hb1 hn hbw
  go_upto_region 33 with fail
  clear sr sl
  rw [fm_cells9b r hr hs]
  have HX := Lib.hid (Box.new HO1.out (fm r 9).r.cells 28)
  have HO := Lib.hid (HO1.out.alloc (.cells (fm r 9).r.cells 28))
  have HB := Lib.hid (HB1.out.alloc HB1.out.size (.cells (fm r 9).r.cells 28))
  have ST := Lib.hid (fm_step9 r hr C)
  have HST := Lib.hid (fm_state9 r)
  have HE := Lib.hid (eq_regs (fm r 9).r)
  generalize w1.alloc (.cells (fm r 9).r.cells 28) = W at HX HO HB ⊢
  generalize w1.heap.size = b at HX ⊢
  generalize fm r 9 = mm at HX ST HST HE ⊢
  generalize begun r [152] = m0 at HO ST HO1 ⊢
  go_region_with (first
    | (go_at_call 18; refine (awake_any _).mono ?_; rintro e w4 ⟨rfl, hb⟩; have HO4 := Lib.hid (HO.out.drew.below hb); have HX4 := Lib.hid (HX.out.drew.below hb); have HB4 := Lib.hid ((Below.drew HB.out).trans (hb.mono (Below.drew HB.out).size)); clear hb)
    | (go_at_call 25; refine (ST.out _ _ HO4.out).mono ?_; rintro e w5 ⟨rfl, lv5, h5, f5, k5⟩; have HO5 := Lib.hid h5; have HX5 := Lib.hid (HX4.out.step f5 k5); have HB5 := Lib.hid (below_step HB4.out f5 HN.out); clear h5 f5 k5; have sc := HO5.out.sees.c; have sf := HO5.out.sees.f; have sr := HO5.out.sees.r; have ss := HO5.out.sees.s; have sl := HO5.out.sees.l; obtain ⟨xc, xf, xr, xs, xl⟩ := HX5.out.row.sees; have eqr := HE.out)
    | (go_at_call 19; have hs := state_any _ C lv5 _ HO5.out; rw [HST.out] at hs; refine hs.mono ?_; clear hs; rintro e w6 ⟨rfl, rfl⟩))
  all_goals
    go_wp2_with fail
    go_ret
    exact ⟨rfl, HB5.out⟩

set_option maxRecDepth 100000 in
set_option maxHeartbeats 6400000 in
theorem cpuFlags_10a (r : Regs) (hr : r.wf) (how x : Int) (hx : bits .and .i64 how 255 = x) (hm : x.tmod 12 = 10) (hs : r.g0.v ≤ 32767) (w : World) :
    Calls Tryz.prog 9 #[r.val, .int .i64 how] w fun e w' => e = .returned (.bool true) ∧ Below w.heap.size w w' := by
  have ax0 := hr.g0.1
  have ax1 := hr.g0.2
  have gt : decide (32767 < (begun r [153]).r.g0.v) = false := by
    show decide (32767 < r.g0.v) = _; simp only [decide_eq_false_iff_not]; omega
  go_enter Tryz.func9, Tryz.ntmps9
  go_wp2_with fail
  have hrow := Row.new ((w.alloc (.cells r.cells 28)).alloc (.cells #[.int .u8 248, .int .u8 249, .int .u8 250, .int .u8 251, .int .u8 252, .int .u8 253, .int .u8 245, .int .u8 158, .int .u8 159, .int .u8 152, .int .u8 153, .int .u8 155] 5)) #[.int .u8 153] 5
  have hcell : ∀ k, k < [(153 : Int)].length → (((w.alloc (.cells r.cells 28)).alloc (.cells #[.int .u8 248, .int .u8 249, .int .u8 250, .int .u8 251, .int .u8 252, .int .u8 253, .int .u8 245, .int .u8 158, .int .u8 159, .int .u8 152, .int .u8 153, .int .u8 155] 5)).alloc (.cells #[.int .u8 153] 5)).cell? ⟨w.heap.size + 1 + 1, k, none⟩ = some (.int .u8 ([(153 : Int)].getD k 0)) := by
    intro k hk
    have := hrow.cell k
    simp only [World.size_alloc] at this
    rw [this]
    match k, hk with
    | 0, _ => rfl
    | k + 1, h => simp at h
  have hlt : w.heap.size + 1 + 1 < (((w.alloc (.cells r.cells 28)).alloc (.cells #[.int .u8 248, .int .u8 249, .int .u8 250, .int .u8 251, .int .u8 252, .int .u8 253, .int .u8 245, .int .u8 158, .int .u8 159, .int .u8 152, .int .u8 153, .int .u8 155] 5)).alloc (.cells #[.int .u8 153] 5)).heap.size := by
    simp
  have hbw : Below w.heap.size w (((w.alloc (.cells r.cells 28)).alloc (.cells #[.int .u8 248, .int .u8 249, .int .u8 250, .int .u8 251, .int .u8 252, .int .u8 253, .int .u8 245, .int .u8 158, .int .u8 159, .int .u8 152, .int .u8 153, .int .u8 155] 5)).alloc (.cells #[.int .u8 153] 5)) :=
    (((Below.refl w.heap.size w).alloc (Nat.le_refl _) _).alloc (by simp) _).alloc (by simp; omega) _
  have bwf : ∀ k, 0 ≤ [(153 : Int)].getD k 0 ∧ [(153 : Int)].getD k 0 ≤ 255 := by
    intro k
    match k with
    | 0 => exact ⟨by show (0 : Int) ≤ 153; decide, by show (153 : Int) ≤ 255; decide⟩
    | k + 1 => simp
  refine (begin_any _ r hr (w.heap.size + 1 + 1) 1 [153] hlt hcell bwf (by simp)).mono ?_
  clear hcell hlt hrow bwf hx hm
  generalize (((w.alloc (.cells r.cells 28)).alloc (.cells #[.int .u8 248, .int .u8 249, .int .u8 250, .int .u8 251, .int .u8 252, .int .u8 253, .int .u8 245, .int .u8 158, .int .u8 159, .int .u8 152, .int .u8 153, .int .u8 155] 5)).alloc (.cells #[.int .u8 153] 5)) = W0 at hbw ⊢
  rintro e w1 ⟨C, lv, rfl, ho, hb1, hn⟩; dsimp only
  have HB1 := Lib.hid (hbw.trans (hb1.mono hbw.size))
  have HN := Lib.hid (fun k (hk : k < w.heap.size) => hn k (Nat.lt_of_lt_of_le hk hbw.size))
  have sr := ho.sees.r
  have sl := ho.row.lt
  have HO1 := Lib.hid ho
  have HB1s := Lib.hid HB1.out.size
  clear ho hb1 hn hbw
  go_upto_region 33 with fail
  clear sr sl
  rw [fm_cells10a r hr hs]
  have HX := Lib.hid (Box.new HO1.out (fm r 10).r.cells 28)
  have HO := Lib.hid (HO1.out.alloc (.cells (fm r 10).r.cells 28))
  have HB := Lib.hid (HB1.out.alloc HB1.out.size (.cells (fm r 10).r.cells 28))
  have ST := Lib.hid (fm_step10 r hr C)
  have HST := Lib.hid (fm_state10 r)
  have HE := Lib.hid (eq_regs (fm r 10).r)
  generalize w1.alloc (.cells (fm r 10).r.cells 28) = W at HX HO HB ⊢
  generalize w1.heap.size = b at HX ⊢
  generalize fm r 10 = mm at HX ST HST HE ⊢
  generalize begun r [153] = m0 at HO ST HO1 ⊢
  go_region_with (first
    | (go_at_call 18; refine (awake_any _).mono ?_; rintro e w4 ⟨rfl, hb⟩; have HO4 := Lib.hid (HO.out.drew.below hb); have HX4 := Lib.hid (HX.out.drew.below hb); have HB4 := Lib.hid ((Below.drew HB.out).trans (hb.mono (Below.drew HB.out).size)); clear hb)
    | (go_at_call 25; refine (ST.out _ _ HO4.out).mono ?_; rintro e w5 ⟨rfl, lv5, h5, f5, k5⟩; have HO5 := Lib.hid h5; have HX5 := Lib.hid (HX4.out.step f5 k5); have HB5 := Lib.hid (below_step HB4.out f5 HN.out); clear h5 f5 k5; have sc := HO5.out.sees.c; have sf := HO5.out.sees.f; have sr := HO5.out.sees.r; have ss := HO5.out.sees.s; have sl := HO5.out.sees.l; obtain ⟨xc, xf, xr, xs, xl⟩ := HX5.out.row.sees; have eqr := HE.out)
    | (go_at_call 19; have hs := state_any _ C lv5 _ HO5.out; rw [HST.out] at hs; refine hs.mono ?_; clear hs; rintro e w6 ⟨rfl, rfl⟩))
  all_goals
    go_wp2_with fail
    go_ret
    exact ⟨rfl, HB5.out⟩

set_option maxRecDepth 100000 in
set_option maxHeartbeats 6400000 in
theorem cpuFlags_10b (r : Regs) (hr : r.wf) (how x : Int) (hx : bits .and .i64 how 255 = x) (hm : x.tmod 12 = 10) (hs : 32767 < r.g0.v) (w : World) :
    Calls Tryz.prog 9 #[r.val, .int .i64 how] w fun e w' => e = .returned (.bool true) ∧ Below w.heap.size w w' := by
  have ax0 := hr.g0.1
  have ax1 := hr.g0.2
  have gt : decide (32767 < (begun r [153]).r.g0.v) = true := by
    show decide (32767 < r.g0.v) = _; simp only [decide_eq_true_eq]; omega
  go_enter Tryz.func9, Tryz.ntmps9
  go_wp2_with fail
  have hrow := Row.new ((w.alloc (.cells r.cells 28)).alloc (.cells #[.int .u8 248, .int .u8 249, .int .u8 250, .int .u8 251, .int .u8 252, .int .u8 253, .int .u8 245, .int .u8 158, .int .u8 159, .int .u8 152, .int .u8 153, .int .u8 155] 5)) #[.int .u8 153] 5
  have hcell : ∀ k, k < [(153 : Int)].length → (((w.alloc (.cells r.cells 28)).alloc (.cells #[.int .u8 248, .int .u8 249, .int .u8 250, .int .u8 251, .int .u8 252, .int .u8 253, .int .u8 245, .int .u8 158, .int .u8 159, .int .u8 152, .int .u8 153, .int .u8 155] 5)).alloc (.cells #[.int .u8 153] 5)).cell? ⟨w.heap.size + 1 + 1, k, none⟩ = some (.int .u8 ([(153 : Int)].getD k 0)) := by
    intro k hk
    have := hrow.cell k
    simp only [World.size_alloc] at this
    rw [this]
    match k, hk with
    | 0, _ => rfl
    | k + 1, h => simp at h
  have hlt : w.heap.size + 1 + 1 < (((w.alloc (.cells r.cells 28)).alloc (.cells #[.int .u8 248, .int .u8 249, .int .u8 250, .int .u8 251, .int .u8 252, .int .u8 253, .int .u8 245, .int .u8 158, .int .u8 159, .int .u8 152, .int .u8 153, .int .u8 155] 5)).alloc (.cells #[.int .u8 153] 5)).heap.size := by
    simp
  have hbw : Below w.heap.size w (((w.alloc (.cells r.cells 28)).alloc (.cells #[.int .u8 248, .int .u8 249, .int .u8 250, .int .u8 251, .int .u8 252, .int .u8 253, .int .u8 245, .int .u8 158, .int .u8 159, .int .u8 152, .int .u8 153, .int .u8 155] 5)).alloc (.cells #[.int .u8 153] 5)) :=
    (((Below.refl w.heap.size w).alloc (Nat.le_refl _) _).alloc (by simp) _).alloc (by simp; omega) _
  have bwf : ∀ k, 0 ≤ [(153 : Int)].getD k 0 ∧ [(153 : Int)].getD k 0 ≤ 255 := by
    intro k
    match k with
    | 0 => exact ⟨by show (0 : Int) ≤ 153; decide, by show (153 : Int) ≤ 255; decide⟩
    | k + 1 => simp
  refine (begin_any _ r hr (w.heap.size + 1 + 1) 1 [153] hlt hcell bwf (by simp)).mono ?_
  clear hcell hlt hrow bwf hx hm
  generalize (((w.alloc (.cells r.cells 28)).alloc (.cells #[.int .u8 248, .int .u8 249, .int .u8 250, .int .u8 251, .int .u8 252, .int .u8 253, .int .u8 245, .int .u8 158, .int .u8 159, .int .u8 152, .int .u8 153, .int .u8 155] 5)).alloc (.cells #[.int .u8 153] 5)) = W0 at hbw ⊢
  rintro e w1 ⟨C, lv, rfl, ho, hb1, hn⟩; dsimp only
  have HB1 := Lib.hid (hbw.trans (hb1.mono hbw.size))
  have HN := Lib.hid (fun k (hk : k < w.heap.size) => hn k (Nat.lt_of_lt_of_le hk hbw.size))
  have sr := ho.sees.r
  have sl := ho.row.lt
  have HO1 := Lib.hid ho
  have HB1s := Lib.hid HB1.out.size
  clear ho hb1 hn hbw
  go_upto_region 33 with fail
  clear sr sl
  rw [fm_cells10b r hr hs]
  have HX := Lib.hid (Box.new HO1.out (fm r 10).r.cells 28)
  have HO := Lib.hid (HO1.out.alloc (.cells (fm r 10).r.cells 28))
  have HB := Lib.hid (HB1.out.alloc HB1.out.size (.cells (fm r 10).r.cells 28))
  have ST := Lib.hid (fm_step10 r hr C)
  have HST := Lib.hid (fm_state10 r)
  have HE := Lib.hid (eq_regs (fm r 10).r)
  generalize w1.alloc (.cells (fm r 10).r.cells 28) = W at HX HO HB ⊢
  generalize w1.heap.size = b at HX ⊢
  generalize fm r 10 = mm at HX ST HST HE ⊢
  generalize begun r [153] = m0 at HO ST HO1 ⊢
  go_region_with (first
    | (go_at_call 18; refine (awake_any _).mono ?_; rintro e w4 ⟨rfl, hb⟩; have HO4 := Lib.hid (HO.out.drew.below hb); have HX4 := Lib.hid (HX.out.drew.below hb); have HB4 := Lib.hid ((Below.drew HB.out).trans (hb.mono (Below.drew HB.out).size)); clear hb)
    | (go_at_call 25; refine (ST.out _ _ HO4.out).mono ?_; rintro e w5 ⟨rfl, lv5, h5, f5, k5⟩; have HO5 := Lib.hid h5; have HX5 := Lib.hid (HX4.out.step f5 k5); have HB5 := Lib.hid (below_step HB4.out f5 HN.out); clear h5 f5 k5; have sc := HO5.out.sees.c; have sf := HO5.out.sees.f; have sr := HO5.out.sees.r; have ss := HO5.out.sees.s; have sl := HO5.out.sees.l; obtain ⟨xc, xf, xr, xs, xl⟩ := HX5.out.row.sees; have eqr := HE.out)
    | (go_at_call 19; have hs := state_any _ C lv5 _ HO5.out; rw [HST.out] at hs; refine hs.mono ?_; clear hs; rintro e w6 ⟨rfl, rfl⟩))
  all_goals
    go_wp2_with fail
    go_ret
    exact ⟨rfl, HB5.out⟩

theorem cpuFlags_any (r : Regs) (hr : r.wf) (how x : Int) (hx : bits .and .i64 how 255 = x) (x0 : 0 ≤ x) (x1 : x ≤ 255) (w : World) :
    Calls Tryz.prog 9 #[r.val, .int .i64 how] w fun e w' => e = .returned (.bool true) ∧ Below w.heap.size w w' := by
  have h : x.tmod 12 = 0 ∨ x.tmod 12 = 1 ∨ x.tmod 12 = 2 ∨ x.tmod 12 = 3 ∨ x.tmod 12 = 4 ∨ x.tmod 12 = 5 ∨ x.tmod 12 = 6 ∨ x.tmod 12 = 7 ∨ x.tmod 12 = 8 ∨ x.tmod 12 = 9 ∨ x.tmod 12 = 10 ∨ x.tmod 12 = 11 := by
    rw [Int.tmod_eq_emod_of_nonneg x0]
    omega
  rcases h with h | h | h | h | h | h | h | h | h | h | h | h
  · exact cpuFlags_0 r hr how x hx h w
  · exact cpuFlags_1 r hr how x hx h w
  · exact cpuFlags_2 r hr how x hx h w
  · exact cpuFlags_3 r hr how x hx h w
  · exact cpuFlags_4 r hr how x hx h w
  · exact cpuFlags_5 r hr how x hx h w
  · exact cpuFlags_6 r hr how x hx h w
  · exact cpuFlags_7 r hr how x hx h w
  · exact cpuFlags_8 r hr how x hx h w
  · by_cases hs : 127 < r.g0.v % 256
    · exact cpuFlags_9b r hr how x hx h hs w
    · exact cpuFlags_9a r hr how x hx h (by omega) w
  · by_cases hs : 32767 < r.g0.v
    · exact cpuFlags_10b r hr how x hx h hs w
    · exact cpuFlags_10a r hr how x hx h (by omega) w
  · exact cpuFlags_11 r hr how x hx h w
end Go.Proofs.YtcglkefaopgjeaaGreatDoor

/- CpuFlags: for every input the law returns true, and its arguments read as before; conditions: hansom/addr.bases holds its own text. -/
namespace Go.Proofs.YtcglkefaopgjeaaGreatDoor.cpuFlags
set_option linter.unusedSimpArgs false
set_option linter.unusedVariables false
open Go.ChangeShapes Go.WideShapes Go.ChangeAt Go.RowKit

theorem walk (R0 : Regs) (w0 : R0.wf) (a1 : Int) (w1 : (Lit.int .i64 a1).wf = true) (w : World) :
    Calls Tryz.prog 9 #[R0.val, .int .i64 a1] w fun e w' => e = .returned (.bool true) ∧ Below w.heap.size w w' := by
  have e := i64_mask a1 8 255 rfl (by decide)
  have hm : a1 % ((2 ^ 8 : Nat) : Int) = a1 % 256 := rfl
  rw [hm] at e
  exact cpuFlags_any R0 w0 a1 (a1 % 256) e (by omega) (by omega) w

set_option maxRecDepth 100000 in
theorem lifted (os : Os) (started : os.Started) (H : Type) (enc : TypeId × Value → H) :
    ReturnsInHanded {} Tryz.checked os 9 .any (fun w args => (Rows.cpuFlagsSpec.pre enc Tryz.prog Tryz.f9 [] false w args ∧ laidMetH Tryz.prog [("hansom/addr.bases", Rows.laid_hansom_addr_bases)] w) ∧ sizedMet enc Tryz.prog Tryz.f9 (OpenSpec.ofChange Rows.cpuFlagsSpec) false w args)
      (Rows.cpuFlagsSpec.post enc Tryz.prog Tryz.f9 false true false false) := by
  refine returnsInHanded_of_change_and (C := Tryz.checked) (X := fun w _ => laidMetH Tryz.prog [("hansom/addr.bases", Rows.laid_hansom_addr_bases)] w) (fun _ _ _ hh h => h.of_heap hh) own started (by kernel_rfl) Tryz.func9
    (ChangeSpec.witness_shaped (enc := enc) (C := Tryz.checked) (os := os) (X := fun w _ => laidMetH Tryz.prog [("hansom/addr.bases", Rows.laid_hansom_addr_bases)] w) false (World.doorLaid Tryz.prog 4000 os) #[zeroRegs.val, .int .i64 0] 8 rfl (World.shaped_of_RefB (by kernel_rfl) (by kernel_rfl)) (by kernel_rfl) (by kernel_rfl) (by kernel_rfl) (door_met os _)) ?_
  intro W base args ds gs before hval0 hW _ _ hL _
  have hval : ∀ (j : Nat) t v, Tryz.f9.params[j]? = some t → args[j]? = some v → Value.okWide Tryz.prog W .any base t v := hval0
  have hW' := hW
  obtain ⟨p, q, hA0, hV, rfl, hfz, hnd⟩ := hW
  have hA : DataW.TrodAll enc Tryz.prog W 0 (fun _ => true) true Tryz.f9.params.toList args.toList ds p := hA0
  rw [Tryz.params9] at hA hval
  obtain ⟨v0, vs0, d0, ds0, p0, q0, hargs, rfl, rfl, h0, r0⟩ := trodAll_cons hA
  obtain ⟨v1, vs1, d1, ds1, p1, q1, rfl, rfl, rfl, h1, r1⟩ := trodAll_cons r0
  obtain ⟨rfl, rfl, rfl⟩ := trodAll_nil r1
  obtain rfl : args = #[v0, v1] := by cases args; simp_all
  obtain ⟨rfl, rfl⟩ := trodVars_none hV
  obtain ⟨R0, rfl, w0, rfl⟩ := open_regs (hval 0 _ v0 rfl rfl) h0
  obtain ⟨a1, rfl, rfl, rfl, w1⟩ := open_int Tryz.underlying3 (hval 1 _ v1 rfl rfl) h1
  clear hA0 hval0
  simp only [List.append_nil] at hW'
  refine (walk R0 w0 a1 w1 W).mono fun e W' ⟨he, hg⟩ => ?_
  subst he
  exact ⟨_, rfl, _, _, _, [], [], [], hW', trodAll_cons_mk (shut_bool Tryz.underlying4 _) trodAll_mk0, (trodAll_cons_mk (regs_stays h0) (trodAll_cons_mk (shut_int Tryz.underlying3 w1) trodAll_mk0)), rfl, hg.frame _, fun h => by cases h⟩

theorem row_holds : Rows.CpuFlagsSaid :=
  OpenClaim.holds_of_wide 9 Tryz.f9 rfl rfl rfl rfl rfl rfl rfl ⟨rfl, rfl, rfl, rfl, rfl⟩ rfl rfl rfl rfl rfl (by kernel_rfl) Tryz.func9 (by kernel_rfl)
    (of_decide_eq_true (by kernel_rfl)) (by unfold Func.isWrapper; first | (rw [if_pos (by decide +kernel)]; kernel_rfl) | (rw [if_neg (by decide +kernel)]; exact ⟨rfl, rfl⟩))
    (fun os started H enc _ => lifted os started H enc)
end Go.Proofs.YtcglkefaopgjeaaGreatDoor.cpuFlags
