/-
  DERIVED. GIVEN WITH THE SEED: THE CARDS: each row of YtcglkefaopgjeaaGreatDoorRows.lean that lists a variable, with what it lists TIED to the program's text (the seventh form; the later family's looks); each row that meets fmt, with fmt's text TOLD by the authors' own Lean function (tested against real Go, not proved from fmt's source: count such statements apart). THE CARD IS WHAT COUNTS. Prove the row's statement (the work); the ties are given (YtcglkefaopgjeaaGreatDoorTie.lean); close each card by the builder's one call (the guide's Derived/Test/ToyasCard.lean, 'card_holds'). Laid BY PROGRAM, IN A SANDBOX (cutbox-door.mjs). By AI agents, Wed Nov 11 2026. No macro, syntax, notation, axiom, sorry.
-/
import Derived.Test.YtcglkefaopgjeaaGreatDoorRows
import GoSem.ClaimSeven
namespace Go.Proofs.YtcglkefaopgjeaaGreatDoor
namespace Rows

/-- THE TIED CARD OF 'hansomlaw16.CpuFetch'. -/
def cpuFetchCard : Claim7 := { stood := { row := cpuFetchRow, standIns := [], harness := (true, "fd81ed52777c1ab5d1049adc72a8c3ad1077e1cdf8a5c8dbf258e3a59d7df17e"), looks := true }, kinds := [], alts := [], laidByText := true, laidKinds := [.data], laidTests := true, laidLooks := .later }
def CpuFetchCardSaid : Prop := Claim7.holds Tryz.pinned (.plain (OpenSpec.ofChange cpuFetchSpec)) cpuFetchCard

/-- THE TIED CARD OF 'hansomlaw16.CpuSums'. -/
def cpuSumsCard : Claim7 := { stood := { row := cpuSumsRow, standIns := [], harness := (true, "fd81ed52777c1ab5d1049adc72a8c3ad1077e1cdf8a5c8dbf258e3a59d7df17e"), looks := true }, kinds := [], alts := [], laidByText := true, laidKinds := [.data], laidTests := true, laidLooks := .later }
def CpuSumsCardSaid : Prop := Claim7.holds Tryz.pinned (.plain (OpenSpec.ofChange cpuSumsSpec)) cpuSumsCard

/-- THE TIED CARD OF 'hansomlaw16.CpuOnes'. -/
def cpuOnesCard : Claim7 := { stood := { row := cpuOnesRow, standIns := [], harness := (true, "fd81ed52777c1ab5d1049adc72a8c3ad1077e1cdf8a5c8dbf258e3a59d7df17e"), looks := true }, kinds := [], alts := [], laidByText := true, laidKinds := [.data], laidTests := true, laidLooks := .later }
def CpuOnesCardSaid : Prop := Claim7.holds Tryz.pinned (.plain (OpenSpec.ofChange cpuOnesSpec)) cpuOnesCard

/-- THE TIED CARD OF 'hansomlaw16.CpuProducts'. -/
def cpuProductsCard : Claim7 := { stood := { row := cpuProductsRow, standIns := [], harness := (true, "fd81ed52777c1ab5d1049adc72a8c3ad1077e1cdf8a5c8dbf258e3a59d7df17e"), looks := true }, kinds := [], alts := [], laidByText := true, laidKinds := [.data], laidTests := true, laidLooks := .later }
def CpuProductsCardSaid : Prop := Claim7.holds Tryz.pinned (.plain (OpenSpec.ofChange cpuProductsSpec)) cpuProductsCard

/-- THE TIED CARD OF 'hansomlaw16.CpuStack'. -/
def cpuStackCard : Claim7 := { stood := { row := cpuStackRow, standIns := [], harness := (true, "fd81ed52777c1ab5d1049adc72a8c3ad1077e1cdf8a5c8dbf258e3a59d7df17e"), looks := true }, kinds := [], alts := [], laidByText := true, laidKinds := [.data], laidTests := true, laidLooks := .later }
def CpuStackCardSaid : Prop := Claim7.holds Tryz.pinned (.plain (OpenSpec.ofChange cpuStackSpec)) cpuStackCard

/-- THE TIED CARD OF 'hansomlaw16.CpuPorts'. -/
def cpuPortsCard : Claim7 := { stood := { row := cpuPortsRow, standIns := [], harness := (true, "fd81ed52777c1ab5d1049adc72a8c3ad1077e1cdf8a5c8dbf258e3a59d7df17e"), looks := true }, kinds := [], alts := [], laidByText := true, laidKinds := [.data], laidTests := true, laidLooks := .later }
def CpuPortsCardSaid : Prop := Claim7.holds Tryz.pinned (.plain (OpenSpec.ofChange cpuPortsSpec)) cpuPortsCard

/-- THE TIED CARD OF 'hansomlaw16.CpuFlags'. -/
def cpuFlagsCard : Claim7 := { stood := { row := cpuFlagsRow, standIns := [], harness := (true, "fd81ed52777c1ab5d1049adc72a8c3ad1077e1cdf8a5c8dbf258e3a59d7df17e"), looks := true }, kinds := [], alts := [], laidByText := true, laidKinds := [.data], laidTests := true, laidLooks := .later }
def CpuFlagsCardSaid : Prop := Claim7.holds Tryz.pinned (.plain (OpenSpec.ofChange cpuFlagsSpec)) cpuFlagsCard

/-- THE TIED CARD OF 'hansomlaw16.CpuRuns'. -/
def cpuRunsCard : Claim7 := { stood := { row := cpuRunsRow, standIns := [], harness := (true, "fd81ed52777c1ab5d1049adc72a8c3ad1077e1cdf8a5c8dbf258e3a59d7df17e"), looks := true }, kinds := [], alts := [], laidByText := true, laidKinds := [.data], laidTests := true, laidLooks := .later }
def CpuRunsCardSaid : Prop := Claim7.holds Tryz.pinned (.plain (OpenSpec.ofChange cpuRunsSpec)) cpuRunsCard

/-- THE TIED CARD OF 'hansomlaw47.PairRuns'. -/
def pairRunsCard : Claim7 := { stood := { row := pairRunsRow, standIns := [], harness := (true, "fd81ed52777c1ab5d1049adc72a8c3ad1077e1cdf8a5c8dbf258e3a59d7df17e"), looks := true }, kinds := [], alts := [], laidByText := true, laidKinds := [.data], laidTests := true, laidLooks := .later }
def PairRunsCardSaid : Prop := Claim7.holds Tryz.pinned (.plain (OpenSpec.ofChange pairRunsSpec)) pairRunsCard

/-- THE TIED CARD OF 'hansomlaw47.PairRaw'. -/
def pairRawCard : Claim7 := { stood := { row := pairRawRow, standIns := [], harness := (true, "fd81ed52777c1ab5d1049adc72a8c3ad1077e1cdf8a5c8dbf258e3a59d7df17e"), looks := true }, kinds := [], alts := [], laidByText := true, laidKinds := [.data], laidTests := true, laidLooks := .later }
def PairRawCardSaid : Prop := Claim7.holds Tryz.pinned (.plain (OpenSpec.ofChange pairRawSpec)) pairRawCard

/-- THE TIED CARD OF 'hansomlaw47.PairFinds'. -/
def pairFindsCard : Claim7 := { stood := { row := pairFindsRow, standIns := [], harness := (true, "fd81ed52777c1ab5d1049adc72a8c3ad1077e1cdf8a5c8dbf258e3a59d7df17e"), looks := true }, kinds := [], alts := [], laidByText := true, laidKinds := [.data], laidTests := true, laidLooks := .later }
def PairFindsCardSaid : Prop := Claim7.holds Tryz.pinned (.plain (OpenSpec.ofChange pairFindsSpec)) pairFindsCard

/-- THE SECOND FORM's CARD OF 'hansomlaw16.CpuFetch'. -/
def cpuFetchUptoCard : Claim7 := { stood := { row := cpuFetchUptoRow, standIns := [], harness := (true, "fd81ed52777c1ab5d1049adc72a8c3ad1077e1cdf8a5c8dbf258e3a59d7df17e"), looks := true }, kinds := [], alts := [], laidByText := true, laidKinds := [.data], laidTests := true, laidLooks := .later }
def CpuFetchUptoCardSaid : Prop := Claim7.holds Tryz.pinned (.plain (OpenSpec.upto cpuFetchSpec)) cpuFetchUptoCard

/-- THE SECOND FORM's CARD OF 'hansomlaw16.CpuSums'. -/
def cpuSumsUptoCard : Claim7 := { stood := { row := cpuSumsUptoRow, standIns := [], harness := (true, "fd81ed52777c1ab5d1049adc72a8c3ad1077e1cdf8a5c8dbf258e3a59d7df17e"), looks := true }, kinds := [], alts := [], laidByText := true, laidKinds := [.data], laidTests := true, laidLooks := .later }
def CpuSumsUptoCardSaid : Prop := Claim7.holds Tryz.pinned (.plain (OpenSpec.upto cpuSumsSpec)) cpuSumsUptoCard

/-- THE SECOND FORM's CARD OF 'hansomlaw16.CpuOnes'. -/
def cpuOnesUptoCard : Claim7 := { stood := { row := cpuOnesUptoRow, standIns := [], harness := (true, "fd81ed52777c1ab5d1049adc72a8c3ad1077e1cdf8a5c8dbf258e3a59d7df17e"), looks := true }, kinds := [], alts := [], laidByText := true, laidKinds := [.data], laidTests := true, laidLooks := .later }
def CpuOnesUptoCardSaid : Prop := Claim7.holds Tryz.pinned (.plain (OpenSpec.upto cpuOnesSpec)) cpuOnesUptoCard

/-- THE SECOND FORM's CARD OF 'hansomlaw16.CpuProducts'. -/
def cpuProductsUptoCard : Claim7 := { stood := { row := cpuProductsUptoRow, standIns := [], harness := (true, "fd81ed52777c1ab5d1049adc72a8c3ad1077e1cdf8a5c8dbf258e3a59d7df17e"), looks := true }, kinds := [], alts := [], laidByText := true, laidKinds := [.data], laidTests := true, laidLooks := .later }
def CpuProductsUptoCardSaid : Prop := Claim7.holds Tryz.pinned (.plain (OpenSpec.upto cpuProductsSpec)) cpuProductsUptoCard

/-- THE SECOND FORM's CARD OF 'hansomlaw16.CpuStack'. -/
def cpuStackUptoCard : Claim7 := { stood := { row := cpuStackUptoRow, standIns := [], harness := (true, "fd81ed52777c1ab5d1049adc72a8c3ad1077e1cdf8a5c8dbf258e3a59d7df17e"), looks := true }, kinds := [], alts := [], laidByText := true, laidKinds := [.data], laidTests := true, laidLooks := .later }
def CpuStackUptoCardSaid : Prop := Claim7.holds Tryz.pinned (.plain (OpenSpec.upto cpuStackSpec)) cpuStackUptoCard

/-- THE SECOND FORM's CARD OF 'hansomlaw16.CpuPorts'. -/
def cpuPortsUptoCard : Claim7 := { stood := { row := cpuPortsUptoRow, standIns := [], harness := (true, "fd81ed52777c1ab5d1049adc72a8c3ad1077e1cdf8a5c8dbf258e3a59d7df17e"), looks := true }, kinds := [], alts := [], laidByText := true, laidKinds := [.data], laidTests := true, laidLooks := .later }
def CpuPortsUptoCardSaid : Prop := Claim7.holds Tryz.pinned (.plain (OpenSpec.upto cpuPortsSpec)) cpuPortsUptoCard

/-- THE SECOND FORM's CARD OF 'hansomlaw16.CpuFlags'. -/
def cpuFlagsUptoCard : Claim7 := { stood := { row := cpuFlagsUptoRow, standIns := [], harness := (true, "fd81ed52777c1ab5d1049adc72a8c3ad1077e1cdf8a5c8dbf258e3a59d7df17e"), looks := true }, kinds := [], alts := [], laidByText := true, laidKinds := [.data], laidTests := true, laidLooks := .later }
def CpuFlagsUptoCardSaid : Prop := Claim7.holds Tryz.pinned (.plain (OpenSpec.upto cpuFlagsSpec)) cpuFlagsUptoCard

/-- THE SECOND FORM's CARD OF 'hansomlaw16.CpuRuns'. -/
def cpuRunsUptoCard : Claim7 := { stood := { row := cpuRunsUptoRow, standIns := [], harness := (true, "fd81ed52777c1ab5d1049adc72a8c3ad1077e1cdf8a5c8dbf258e3a59d7df17e"), looks := true }, kinds := [], alts := [], laidByText := true, laidKinds := [.data], laidTests := true, laidLooks := .later }
def CpuRunsUptoCardSaid : Prop := Claim7.holds Tryz.pinned (.plain (OpenSpec.upto cpuRunsSpec)) cpuRunsUptoCard

/-- THE SECOND FORM's CARD OF 'hansomlaw47.PairRuns'. -/
def pairRunsUptoCard : Claim7 := { stood := { row := pairRunsUptoRow, standIns := [], harness := (true, "fd81ed52777c1ab5d1049adc72a8c3ad1077e1cdf8a5c8dbf258e3a59d7df17e"), looks := true }, kinds := [], alts := [], laidByText := true, laidKinds := [.data], laidTests := true, laidLooks := .later }
def PairRunsUptoCardSaid : Prop := Claim7.holds Tryz.pinned (.plain (OpenSpec.upto pairRunsSpec)) pairRunsUptoCard

/-- THE SECOND FORM's CARD OF 'hansomlaw47.PairRaw'. -/
def pairRawUptoCard : Claim7 := { stood := { row := pairRawUptoRow, standIns := [], harness := (true, "fd81ed52777c1ab5d1049adc72a8c3ad1077e1cdf8a5c8dbf258e3a59d7df17e"), looks := true }, kinds := [], alts := [], laidByText := true, laidKinds := [.data], laidTests := true, laidLooks := .later }
def PairRawUptoCardSaid : Prop := Claim7.holds Tryz.pinned (.plain (OpenSpec.upto pairRawSpec)) pairRawUptoCard

/-- THE SECOND FORM's CARD OF 'hansomlaw47.PairFinds'. -/
def pairFindsUptoCard : Claim7 := { stood := { row := pairFindsUptoRow, standIns := [], harness := (true, "fd81ed52777c1ab5d1049adc72a8c3ad1077e1cdf8a5c8dbf258e3a59d7df17e"), looks := true }, kinds := [], alts := [], laidByText := true, laidKinds := [.data], laidTests := true, laidLooks := .later }
def PairFindsUptoCardSaid : Prop := Claim7.holds Tryz.pinned (.plain (OpenSpec.upto pairFindsSpec)) pairFindsUptoCard
end Rows
end Go.Proofs.YtcglkefaopgjeaaGreatDoor
