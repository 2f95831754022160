/-
  NARROWER THAN 'FOR EVERY INPUT', by the rows' own cells (each row's printed sentence says how): FlowHolds: laid · FlowJumps: laid · FlowLoops: laid · FlowCalls: laid · FlowWorld: laid.
  DERIVED. THE GIVEN ROWS OF THIS SEAT. 5 by the template 'for every input the law returns true; each argument reads behind the call as it read before'; 0 by the template 'total and deterministic' (their statements: YtcglkefaopgjeaaDoorTotals.lean).
  GIVEN WITH THE SEED: the statements are not yours to turn. If you find one false, say at which input.
  Laid BY PROGRAM, IN A SANDBOX (cutbox-rows.mjs): the forced cells as the released guide's own fill.sh prints them over the translation 33c9850efe965e31… (all of the seat's roots in one cut). By AI agents, Wed Nov 11 2026. No macro, syntax, notation, axiom, sorry.
-/
import Derived.Test.YtcglkefaopgjeaaDoorChecked
import GoSem.Claim
import GoSem.ClaimJoined
import GoSem.ClaimMapViews
import Derived.JoinedTies
import Derived.KernelRfl
namespace Go.Proofs.YtcglkefaopgjeaaDoor
/- THE CELL 'sum', in the pinned program and in every row, IS THE sha256 OF THE DUMP (.gsa) THAT YtcglkefaopgjeaaDoorProg.lean LOADS. Nothing in Lean hashes anything: it is a label: what it is worth is what the hold of that sum in a sandbox is worth. -/
noncomputable def Tryd.pinned : Pinned := { name := "ytcglkefaopgjeaadoor", sum := "33c9850efe965e3159515c5a3e669ca22de75524e28d9cdc77d2a67eb2c7bc98", checked := Tryd.checked }
namespace Rows
def none {H : Type} : Left H := { results := [], args := [] }

/- WHAT THE LISTED PACKAGE-LEVEL VARIABLES READ AS WHEN THE CALL BEGINS. Each datum BY PROGRAM (the guide's laid-datum.mjs) off the statement by which the dump's own 'gosem.cut.vars' lays the variable. In a bare row this is a premise. The card (YtcglkefaopgjeaaDoorCards.lean) ties it to the program's text. -/
def laid_hansom_addr_bases {H : Type} : DataW H := .agg [.agg [.lit (.int .i64 3), .lit (.int .i64 6)], .agg [.lit (.int .i64 3), .lit (.int .i64 7)], .agg [.lit (.int .i64 5), .lit (.int .i64 6)], .agg [.lit (.int .i64 5), .lit (.int .i64 7)], .agg [.lit (.int .i64 6), .lit (.int .i64 (-1))], .agg [.lit (.int .i64 7), .lit (.int .i64 (-1))], .agg [.lit (.int .i64 5), .lit (.int .i64 (-1))], .agg [.lit (.int .i64 3), .lit (.int .i64 (-1))]]

/-- 'hansomlaw14.FlowHolds': WHATEVER THE INPUT: true; the input reads as it did. -/
def flowHoldsSpec : ChangeSpec := { name := "flowHolds", fn := fun _ => fun
  | [d1, d2] => { results := [.lit (.bool true)], args := [d1, d2] }
  | _ => none }
def flowHoldsRow : OpenClaim := { program := "ytcglkefaopgjeaadoor", sum := "33c9850efe965e3159515c5a3e669ca22de75524e28d9cdc77d2a67eb2c7bc98", func := "hansom/hansomlaw14.FlowHolds", spec := "flowHolds", unfollowed := true, recurses := true, named := ["hansom/addr.bases"], apart := false, laid := [("hansom/addr.bases", laid_hansom_addr_bases)] }
def FlowHoldsSaid : Prop := flowHoldsRow.holds Tryd.pinned (OpenSpec.ofChange flowHoldsSpec)

/-- ITS FALSE NEIGHBOUR: 'it returns false'. Refute it at one input. -/
def flowHoldsWrong : ChangeSpec := { name := "flowHolds", fn := fun _ => fun
  | [d1, d2] => { results := [.lit (.bool false)], args := [d1, d2] }
  | _ => none }
def FlowHoldsWrongFalsely : Prop := flowHoldsRow.holds Tryd.pinned (OpenSpec.ofChange flowHoldsWrong)

/-- 'hansomlaw14.FlowJumps': WHATEVER THE INPUT: true; the input reads as it did. -/
def flowJumpsSpec : ChangeSpec := { name := "flowJumps", fn := fun _ => fun
  | [d1, d2, d3] => { results := [.lit (.bool true)], args := [d1, d2, d3] }
  | _ => none }
def flowJumpsRow : OpenClaim := { program := "ytcglkefaopgjeaadoor", sum := "33c9850efe965e3159515c5a3e669ca22de75524e28d9cdc77d2a67eb2c7bc98", func := "hansom/hansomlaw14.FlowJumps", spec := "flowJumps", unfollowed := true, recurses := true, named := ["hansom/addr.bases"], apart := false, laid := [("hansom/addr.bases", laid_hansom_addr_bases)] }
def FlowJumpsSaid : Prop := flowJumpsRow.holds Tryd.pinned (OpenSpec.ofChange flowJumpsSpec)

/-- ITS FALSE NEIGHBOUR: 'it returns false'. Refute it at one input. -/
def flowJumpsWrong : ChangeSpec := { name := "flowJumps", fn := fun _ => fun
  | [d1, d2, d3] => { results := [.lit (.bool false)], args := [d1, d2, d3] }
  | _ => none }
def FlowJumpsWrongFalsely : Prop := flowJumpsRow.holds Tryd.pinned (OpenSpec.ofChange flowJumpsWrong)

/-- 'hansomlaw14.FlowLoops': WHATEVER THE INPUT: true; the input reads as it did. -/
def flowLoopsSpec : ChangeSpec := { name := "flowLoops", fn := fun _ => fun
  | [d1, d2, d3] => { results := [.lit (.bool true)], args := [d1, d2, d3] }
  | _ => none }
def flowLoopsRow : OpenClaim := { program := "ytcglkefaopgjeaadoor", sum := "33c9850efe965e3159515c5a3e669ca22de75524e28d9cdc77d2a67eb2c7bc98", func := "hansom/hansomlaw14.FlowLoops", spec := "flowLoops", unfollowed := true, recurses := true, named := ["hansom/addr.bases"], apart := false, laid := [("hansom/addr.bases", laid_hansom_addr_bases)] }
def FlowLoopsSaid : Prop := flowLoopsRow.holds Tryd.pinned (OpenSpec.ofChange flowLoopsSpec)

/-- ITS FALSE NEIGHBOUR: 'it returns false'. Refute it at one input. -/
def flowLoopsWrong : ChangeSpec := { name := "flowLoops", fn := fun _ => fun
  | [d1, d2, d3] => { results := [.lit (.bool false)], args := [d1, d2, d3] }
  | _ => none }
def FlowLoopsWrongFalsely : Prop := flowLoopsRow.holds Tryd.pinned (OpenSpec.ofChange flowLoopsWrong)

/-- 'hansomlaw14.FlowCalls': WHATEVER THE INPUT: true; the input reads as it did. -/
def flowCallsSpec : ChangeSpec := { name := "flowCalls", fn := fun _ => fun
  | [d1, d2, d3] => { results := [.lit (.bool true)], args := [d1, d2, d3] }
  | _ => none }
def flowCallsRow : OpenClaim := { program := "ytcglkefaopgjeaadoor", sum := "33c9850efe965e3159515c5a3e669ca22de75524e28d9cdc77d2a67eb2c7bc98", func := "hansom/hansomlaw14.FlowCalls", spec := "flowCalls", unfollowed := true, recurses := true, named := ["hansom/addr.bases"], apart := false, laid := [("hansom/addr.bases", laid_hansom_addr_bases)] }
def FlowCallsSaid : Prop := flowCallsRow.holds Tryd.pinned (OpenSpec.ofChange flowCallsSpec)

/-- ITS FALSE NEIGHBOUR: 'it returns false'. Refute it at one input. -/
def flowCallsWrong : ChangeSpec := { name := "flowCalls", fn := fun _ => fun
  | [d1, d2, d3] => { results := [.lit (.bool false)], args := [d1, d2, d3] }
  | _ => none }
def FlowCallsWrongFalsely : Prop := flowCallsRow.holds Tryd.pinned (OpenSpec.ofChange flowCallsWrong)

/-- 'hansomlaw14.FlowWorld': WHATEVER THE INPUT: true; the input reads as it did. -/
def flowWorldSpec : ChangeSpec := { name := "flowWorld", fn := fun _ => fun
  | [d1, d2, d3] => { results := [.lit (.bool true)], args := [d1, d2, d3] }
  | _ => none }
def flowWorldRow : OpenClaim := { program := "ytcglkefaopgjeaadoor", sum := "33c9850efe965e3159515c5a3e669ca22de75524e28d9cdc77d2a67eb2c7bc98", func := "hansom/hansomlaw14.FlowWorld", spec := "flowWorld", unfollowed := true, recurses := true, named := ["hansom/addr.bases"], apart := false, laid := [("hansom/addr.bases", laid_hansom_addr_bases)] }
def FlowWorldSaid : Prop := flowWorldRow.holds Tryd.pinned (OpenSpec.ofChange flowWorldSpec)

/-- ITS FALSE NEIGHBOUR: 'it returns false'. Refute it at one input. -/
def flowWorldWrong : ChangeSpec := { name := "flowWorld", fn := fun _ => fun
  | [d1, d2, d3] => { results := [.lit (.bool false)], args := [d1, d2, d3] }
  | _ => none }
def FlowWorldWrongFalsely : Prop := flowWorldRow.holds Tryd.pinned (OpenSpec.ofChange flowWorldWrong)

/- THE SECOND FORM. 'bulk': how many values and letters a reading holds, each counted each time it is reached (what is shared counts as often as it is met; a slice's spare places count too). A statement '..UptoSaid' is the law's where the arguments, and the package variables that the reading takes, are together of bulk at most 1048576: NARROWER than '..Said'. Prove '..Said' where nothing that the law and all that it calls make is longer than what came in: it says more and counts as full. Else prove '..UptoSaid'. A law counts once. -/
mutual
def uptoBulk {H : Type} : DataW H → Nat
  | .lit (.string bytes) => bytes.length + 1
  | .lit _ => 1
  | .nil => 1
  | .ptr d => uptoBulk d + 1
  | .slice elems spare => uptoBulkAll elems + uptoBulkAll spare + 1
  | .agg parts => uptoBulkAll parts + 1
  | .iface _ d => uptoBulk d + 1
  | .map entries => uptoBulkEntries entries + 1
  | .held _ => 1
def uptoBulkAll {H : Type} : List (DataW H) → Nat
  | [] => 0
  | d :: r => uptoBulk d + uptoBulkAll r
def uptoBulkEntries {H : Type} : List (Lit × DataW H) → Nat
  | [] => 0
  | x :: r => uptoBulkEntry x + uptoBulkEntries r
def uptoBulkEntry {H : Type} : Lit × DataW H → Nat
  | (.string bytes, d) => bytes.length + uptoBulk d + 1
  | (_, d) => uptoBulk d + 1
 end
def uptoSmall : (H : Type) → List (DataW H) → Bool := fun _ ds => decide (uptoBulkAll ds ≤ 1048576)
def OpenSpec.upto (s : _root_.Go.ChangeSpec) : _root_.Go.OpenSpec := { _root_.Go.OpenSpec.ofChange s with cond := some uptoSmall }

/-- 'hansomlaw14.FlowHolds', WHERE WHAT IT READS IS OF BULK AT MOST 1048576: true; the input reads as it did. -/
def flowHoldsUptoRow : OpenClaim := { program := "ytcglkefaopgjeaadoor", sum := "33c9850efe965e3159515c5a3e669ca22de75524e28d9cdc77d2a67eb2c7bc98", func := "hansom/hansomlaw14.FlowHolds", spec := "flowHolds", unfollowed := true, recurses := true, named := ["hansom/addr.bases"], apart := false, laid := [("hansom/addr.bases", laid_hansom_addr_bases)], narrowed := true }
def FlowHoldsUptoSaid : Prop := flowHoldsUptoRow.holds Tryd.pinned (OpenSpec.upto flowHoldsSpec)

/-- 'hansomlaw14.FlowJumps', WHERE WHAT IT READS IS OF BULK AT MOST 1048576: true; the input reads as it did. -/
def flowJumpsUptoRow : OpenClaim := { program := "ytcglkefaopgjeaadoor", sum := "33c9850efe965e3159515c5a3e669ca22de75524e28d9cdc77d2a67eb2c7bc98", func := "hansom/hansomlaw14.FlowJumps", spec := "flowJumps", unfollowed := true, recurses := true, named := ["hansom/addr.bases"], apart := false, laid := [("hansom/addr.bases", laid_hansom_addr_bases)], narrowed := true }
def FlowJumpsUptoSaid : Prop := flowJumpsUptoRow.holds Tryd.pinned (OpenSpec.upto flowJumpsSpec)

/-- 'hansomlaw14.FlowLoops', WHERE WHAT IT READS IS OF BULK AT MOST 1048576: true; the input reads as it did. -/
def flowLoopsUptoRow : OpenClaim := { program := "ytcglkefaopgjeaadoor", sum := "33c9850efe965e3159515c5a3e669ca22de75524e28d9cdc77d2a67eb2c7bc98", func := "hansom/hansomlaw14.FlowLoops", spec := "flowLoops", unfollowed := true, recurses := true, named := ["hansom/addr.bases"], apart := false, laid := [("hansom/addr.bases", laid_hansom_addr_bases)], narrowed := true }
def FlowLoopsUptoSaid : Prop := flowLoopsUptoRow.holds Tryd.pinned (OpenSpec.upto flowLoopsSpec)

/-- 'hansomlaw14.FlowCalls', WHERE WHAT IT READS IS OF BULK AT MOST 1048576: true; the input reads as it did. -/
def flowCallsUptoRow : OpenClaim := { program := "ytcglkefaopgjeaadoor", sum := "33c9850efe965e3159515c5a3e669ca22de75524e28d9cdc77d2a67eb2c7bc98", func := "hansom/hansomlaw14.FlowCalls", spec := "flowCalls", unfollowed := true, recurses := true, named := ["hansom/addr.bases"], apart := false, laid := [("hansom/addr.bases", laid_hansom_addr_bases)], narrowed := true }
def FlowCallsUptoSaid : Prop := flowCallsUptoRow.holds Tryd.pinned (OpenSpec.upto flowCallsSpec)

/-- 'hansomlaw14.FlowWorld', WHERE WHAT IT READS IS OF BULK AT MOST 1048576: true; the input reads as it did. -/
def flowWorldUptoRow : OpenClaim := { program := "ytcglkefaopgjeaadoor", sum := "33c9850efe965e3159515c5a3e669ca22de75524e28d9cdc77d2a67eb2c7bc98", func := "hansom/hansomlaw14.FlowWorld", spec := "flowWorld", unfollowed := true, recurses := true, named := ["hansom/addr.bases"], apart := false, laid := [("hansom/addr.bases", laid_hansom_addr_bases)], narrowed := true }
def FlowWorldUptoSaid : Prop := flowWorldUptoRow.holds Tryd.pinned (OpenSpec.upto flowWorldSpec)

end Rows
end Go.Proofs.YtcglkefaopgjeaaDoor
