/-
  DERIVED. GIVEN WITH THE SEED: THE CARDS: each row of YtcglkefaopgjeaaDoorRows.lean that lists a variable, with what it lists TIED to the program's text (the seventh form; the later family's looks); each row that meets fmt, with fmt's text TOLD by the authors' own Lean function (tested against real Go, not proved from fmt's source: count such statements apart). THE CARD IS WHAT COUNTS. Prove the row's statement (the work); the ties are given (YtcglkefaopgjeaaDoorTie.lean); close each card by the builder's one call (the guide's Derived/Test/ToyasCard.lean, 'card_holds'). Laid BY PROGRAM, IN A SANDBOX (cutbox-door.mjs). By AI agents, Wed Nov 11 2026. No macro, syntax, notation, axiom, sorry.
-/
import Derived.Test.YtcglkefaopgjeaaDoorRows
import GoSem.ClaimSeven
namespace Go.Proofs.YtcglkefaopgjeaaDoor
namespace Rows

/-- THE TIED CARD OF 'hansomlaw14.FlowHolds'. -/
def flowHoldsCard : Claim7 := { stood := { row := flowHoldsRow, standIns := [], harness := (true, "33aba204b5a170f5557a9bcdf47e8ee7f610991366081ceb73088c1410b2ea90"), looks := false }, kinds := [], alts := [], laidByText := true, laidKinds := [.data], laidTests := true, laidLooks := .later }
def FlowHoldsCardSaid : Prop := Claim7.holds Tryd.pinned (.plain (OpenSpec.ofChange flowHoldsSpec)) flowHoldsCard

/-- THE TIED CARD OF 'hansomlaw14.FlowJumps'. -/
def flowJumpsCard : Claim7 := { stood := { row := flowJumpsRow, standIns := [], harness := (true, "33aba204b5a170f5557a9bcdf47e8ee7f610991366081ceb73088c1410b2ea90"), looks := false }, kinds := [], alts := [], laidByText := true, laidKinds := [.data], laidTests := true, laidLooks := .later }
def FlowJumpsCardSaid : Prop := Claim7.holds Tryd.pinned (.plain (OpenSpec.ofChange flowJumpsSpec)) flowJumpsCard

/-- THE TIED CARD OF 'hansomlaw14.FlowLoops'. -/
def flowLoopsCard : Claim7 := { stood := { row := flowLoopsRow, standIns := [], harness := (true, "33aba204b5a170f5557a9bcdf47e8ee7f610991366081ceb73088c1410b2ea90"), looks := false }, kinds := [], alts := [], laidByText := true, laidKinds := [.data], laidTests := true, laidLooks := .later }
def FlowLoopsCardSaid : Prop := Claim7.holds Tryd.pinned (.plain (OpenSpec.ofChange flowLoopsSpec)) flowLoopsCard

/-- THE TIED CARD OF 'hansomlaw14.FlowCalls'. -/
def flowCallsCard : Claim7 := { stood := { row := flowCallsRow, standIns := [], harness := (true, "33aba204b5a170f5557a9bcdf47e8ee7f610991366081ceb73088c1410b2ea90"), looks := false }, kinds := [], alts := [], laidByText := true, laidKinds := [.data], laidTests := true, laidLooks := .later }
def FlowCallsCardSaid : Prop := Claim7.holds Tryd.pinned (.plain (OpenSpec.ofChange flowCallsSpec)) flowCallsCard

/-- THE TIED CARD OF 'hansomlaw14.FlowWorld'. -/
def flowWorldCard : Claim7 := { stood := { row := flowWorldRow, standIns := [], harness := (true, "33aba204b5a170f5557a9bcdf47e8ee7f610991366081ceb73088c1410b2ea90"), looks := false }, kinds := [], alts := [], laidByText := true, laidKinds := [.data], laidTests := true, laidLooks := .later }
def FlowWorldCardSaid : Prop := Claim7.holds Tryd.pinned (.plain (OpenSpec.ofChange flowWorldSpec)) flowWorldCard

/-- THE SECOND FORM's CARD OF 'hansomlaw14.FlowHolds'. -/
def flowHoldsUptoCard : Claim7 := { stood := { row := flowHoldsUptoRow, standIns := [], harness := (true, "33aba204b5a170f5557a9bcdf47e8ee7f610991366081ceb73088c1410b2ea90"), looks := false }, kinds := [], alts := [], laidByText := true, laidKinds := [.data], laidTests := true, laidLooks := .later }
def FlowHoldsUptoCardSaid : Prop := Claim7.holds Tryd.pinned (.plain (OpenSpec.upto flowHoldsSpec)) flowHoldsUptoCard

/-- THE SECOND FORM's CARD OF 'hansomlaw14.FlowJumps'. -/
def flowJumpsUptoCard : Claim7 := { stood := { row := flowJumpsUptoRow, standIns := [], harness := (true, "33aba204b5a170f5557a9bcdf47e8ee7f610991366081ceb73088c1410b2ea90"), looks := false }, kinds := [], alts := [], laidByText := true, laidKinds := [.data], laidTests := true, laidLooks := .later }
def FlowJumpsUptoCardSaid : Prop := Claim7.holds Tryd.pinned (.plain (OpenSpec.upto flowJumpsSpec)) flowJumpsUptoCard

/-- THE SECOND FORM's CARD OF 'hansomlaw14.FlowLoops'. -/
def flowLoopsUptoCard : Claim7 := { stood := { row := flowLoopsUptoRow, standIns := [], harness := (true, "33aba204b5a170f5557a9bcdf47e8ee7f610991366081ceb73088c1410b2ea90"), looks := false }, kinds := [], alts := [], laidByText := true, laidKinds := [.data], laidTests := true, laidLooks := .later }
def FlowLoopsUptoCardSaid : Prop := Claim7.holds Tryd.pinned (.plain (OpenSpec.upto flowLoopsSpec)) flowLoopsUptoCard

/-- THE SECOND FORM's CARD OF 'hansomlaw14.FlowCalls'. -/
def flowCallsUptoCard : Claim7 := { stood := { row := flowCallsUptoRow, standIns := [], harness := (true, "33aba204b5a170f5557a9bcdf47e8ee7f610991366081ceb73088c1410b2ea90"), looks := false }, kinds := [], alts := [], laidByText := true, laidKinds := [.data], laidTests := true, laidLooks := .later }
def FlowCallsUptoCardSaid : Prop := Claim7.holds Tryd.pinned (.plain (OpenSpec.upto flowCallsSpec)) flowCallsUptoCard

/-- THE SECOND FORM's CARD OF 'hansomlaw14.FlowWorld'. -/
def flowWorldUptoCard : Claim7 := { stood := { row := flowWorldUptoRow, standIns := [], harness := (true, "33aba204b5a170f5557a9bcdf47e8ee7f610991366081ceb73088c1410b2ea90"), looks := false }, kinds := [], alts := [], laidByText := true, laidKinds := [.data], laidTests := true, laidLooks := .later }
def FlowWorldUptoCardSaid : Prop := Claim7.holds Tryd.pinned (.plain (OpenSpec.upto flowWorldSpec)) flowWorldUptoCard
end Rows
end Go.Proofs.YtcglkefaopgjeaaDoor
