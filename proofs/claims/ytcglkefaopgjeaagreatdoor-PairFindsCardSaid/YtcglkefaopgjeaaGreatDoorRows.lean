/-
  NARROWER THAN 'FOR EVERY INPUT', by the rows' own cells (each row's printed sentence says how): CpuFetch: laid · CpuSums: laid · CpuOnes: laid · CpuProducts: laid · CpuStack: laid · CpuPorts: laid · CpuFlags: laid · CpuRuns: laid · PairRuns: laid · PairRaw: laid · PairFinds: laid.
  DERIVED. THE GIVEN ROWS OF THIS SEAT. 11 by the template 'for every input the law returns true; each argument reads behind the call as it read before'; 0 by the template 'total and deterministic' (their statements: YtcglkefaopgjeaaGreatDoorTotals.lean).
  GIVEN WITH THE SEED: the statements are not yours to turn. If you find one false, say at which input.
  Laid BY PROGRAM, IN A SANDBOX (cutbox-rows.mjs): the forced cells as the released guide's own fill.sh prints them over the translation 775382d1ae358338… (all of the seat's roots in one cut). By AI agents, Wed Nov 11 2026. No macro, syntax, notation, axiom, sorry.
-/
import Derived.Test.YtcglkefaopgjeaaGreatDoorChecked
import GoSem.Claim
import GoSem.ClaimJoined
import GoSem.ClaimMapViews
import Derived.JoinedTies
import Derived.KernelRfl
namespace Go.Proofs.YtcglkefaopgjeaaGreatDoor
/- THE CELL 'sum', in the pinned program and in every row, IS THE sha256 OF THE DUMP (.gsa) THAT YtcglkefaopgjeaaGreatDoorProg.lean LOADS. Nothing in Lean hashes anything: it is a label: what it is worth is what the hold of that sum in a sandbox is worth. -/
noncomputable def Tryz.pinned : Pinned := { name := "ytcglkefaopgjeaagreatdoor", sum := "775382d1ae3583388075f6c29b91abb1d7f805348b6008c003160a064999549e", checked := Tryz.checked }
namespace Rows
def none {H : Type} : Left H := { results := [], args := [] }

/- WHAT THE LISTED PACKAGE-LEVEL VARIABLES READ AS WHEN THE CALL BEGINS. Each datum BY PROGRAM (the guide's laid-datum.mjs) off the statement by which the dump's own 'gosem.cut.vars' lays the variable. In a bare row this is a premise. The card (YtcglkefaopgjeaaGreatDoorCards.lean) ties it to the program's text. -/
def laid_hansom_addr_bases {H : Type} : DataW H := .agg [.agg [.lit (.int .i64 3), .lit (.int .i64 6)], .agg [.lit (.int .i64 3), .lit (.int .i64 7)], .agg [.lit (.int .i64 5), .lit (.int .i64 6)], .agg [.lit (.int .i64 5), .lit (.int .i64 7)], .agg [.lit (.int .i64 6), .lit (.int .i64 (-1))], .agg [.lit (.int .i64 7), .lit (.int .i64 (-1))], .agg [.lit (.int .i64 5), .lit (.int .i64 (-1))], .agg [.lit (.int .i64 3), .lit (.int .i64 (-1))]]

/-- 'hansomlaw16.CpuFetch': WHATEVER THE INPUT: true; the input reads as it did. -/
def cpuFetchSpec : ChangeSpec := { name := "cpuFetch", fn := fun _ => fun
  | [d1, d2] => { results := [.lit (.bool true)], args := [d1, d2] }
  | _ => none }
def cpuFetchRow : OpenClaim := { program := "ytcglkefaopgjeaagreatdoor", sum := "775382d1ae3583388075f6c29b91abb1d7f805348b6008c003160a064999549e", func := "hansom/hansomlaw16.CpuFetch", spec := "cpuFetch", unfollowed := true, recurses := true, named := ["hansom/addr.bases"], apart := false, laid := [("hansom/addr.bases", laid_hansom_addr_bases)] }
def CpuFetchSaid : Prop := cpuFetchRow.holds Tryz.pinned (OpenSpec.ofChange cpuFetchSpec)

/-- ITS FALSE NEIGHBOUR: 'it returns false'. Refute it at one input. -/
def cpuFetchWrong : ChangeSpec := { name := "cpuFetch", fn := fun _ => fun
  | [d1, d2] => { results := [.lit (.bool false)], args := [d1, d2] }
  | _ => none }
def CpuFetchWrongFalsely : Prop := cpuFetchRow.holds Tryz.pinned (OpenSpec.ofChange cpuFetchWrong)

/-- 'hansomlaw16.CpuSums': WHATEVER THE INPUT: true; the input reads as it did. -/
def cpuSumsSpec : ChangeSpec := { name := "cpuSums", fn := fun _ => fun
  | [d1, d2, d3] => { results := [.lit (.bool true)], args := [d1, d2, d3] }
  | _ => none }
def cpuSumsRow : OpenClaim := { program := "ytcglkefaopgjeaagreatdoor", sum := "775382d1ae3583388075f6c29b91abb1d7f805348b6008c003160a064999549e", func := "hansom/hansomlaw16.CpuSums", spec := "cpuSums", unfollowed := true, recurses := true, named := ["hansom/addr.bases"], apart := false, laid := [("hansom/addr.bases", laid_hansom_addr_bases)] }
def CpuSumsSaid : Prop := cpuSumsRow.holds Tryz.pinned (OpenSpec.ofChange cpuSumsSpec)

/-- ITS FALSE NEIGHBOUR: 'it returns false'. Refute it at one input. -/
def cpuSumsWrong : ChangeSpec := { name := "cpuSums", fn := fun _ => fun
  | [d1, d2, d3] => { results := [.lit (.bool false)], args := [d1, d2, d3] }
  | _ => none }
def CpuSumsWrongFalsely : Prop := cpuSumsRow.holds Tryz.pinned (OpenSpec.ofChange cpuSumsWrong)

/-- 'hansomlaw16.CpuOnes': WHATEVER THE INPUT: true; the input reads as it did. -/
def cpuOnesSpec : ChangeSpec := { name := "cpuOnes", fn := fun _ => fun
  | [d1, d2, d3] => { results := [.lit (.bool true)], args := [d1, d2, d3] }
  | _ => none }
def cpuOnesRow : OpenClaim := { program := "ytcglkefaopgjeaagreatdoor", sum := "775382d1ae3583388075f6c29b91abb1d7f805348b6008c003160a064999549e", func := "hansom/hansomlaw16.CpuOnes", spec := "cpuOnes", unfollowed := true, recurses := true, named := ["hansom/addr.bases"], apart := false, laid := [("hansom/addr.bases", laid_hansom_addr_bases)] }
def CpuOnesSaid : Prop := cpuOnesRow.holds Tryz.pinned (OpenSpec.ofChange cpuOnesSpec)

/-- ITS FALSE NEIGHBOUR: 'it returns false'. Refute it at one input. -/
def cpuOnesWrong : ChangeSpec := { name := "cpuOnes", fn := fun _ => fun
  | [d1, d2, d3] => { results := [.lit (.bool false)], args := [d1, d2, d3] }
  | _ => none }
def CpuOnesWrongFalsely : Prop := cpuOnesRow.holds Tryz.pinned (OpenSpec.ofChange cpuOnesWrong)

/-- 'hansomlaw16.CpuProducts': WHATEVER THE INPUT: true; the input reads as it did. -/
def cpuProductsSpec : ChangeSpec := { name := "cpuProducts", fn := fun _ => fun
  | [d1, d2] => { results := [.lit (.bool true)], args := [d1, d2] }
  | _ => none }
def cpuProductsRow : OpenClaim := { program := "ytcglkefaopgjeaagreatdoor", sum := "775382d1ae3583388075f6c29b91abb1d7f805348b6008c003160a064999549e", func := "hansom/hansomlaw16.CpuProducts", spec := "cpuProducts", unfollowed := true, recurses := true, named := ["hansom/addr.bases"], apart := false, laid := [("hansom/addr.bases", laid_hansom_addr_bases)] }
def CpuProductsSaid : Prop := cpuProductsRow.holds Tryz.pinned (OpenSpec.ofChange cpuProductsSpec)

/-- ITS FALSE NEIGHBOUR: 'it returns false'. Refute it at one input. -/
def cpuProductsWrong : ChangeSpec := { name := "cpuProducts", fn := fun _ => fun
  | [d1, d2] => { results := [.lit (.bool false)], args := [d1, d2] }
  | _ => none }
def CpuProductsWrongFalsely : Prop := cpuProductsRow.holds Tryz.pinned (OpenSpec.ofChange cpuProductsWrong)

/-- 'hansomlaw16.CpuStack': WHATEVER THE INPUT: true; the input reads as it did. -/
def cpuStackSpec : ChangeSpec := { name := "cpuStack", fn := fun _ => fun
  | [d1, d2] => { results := [.lit (.bool true)], args := [d1, d2] }
  | _ => none }
def cpuStackRow : OpenClaim := { program := "ytcglkefaopgjeaagreatdoor", sum := "775382d1ae3583388075f6c29b91abb1d7f805348b6008c003160a064999549e", func := "hansom/hansomlaw16.CpuStack", spec := "cpuStack", unfollowed := true, recurses := true, named := ["hansom/addr.bases"], apart := false, laid := [("hansom/addr.bases", laid_hansom_addr_bases)] }
def CpuStackSaid : Prop := cpuStackRow.holds Tryz.pinned (OpenSpec.ofChange cpuStackSpec)

/-- ITS FALSE NEIGHBOUR: 'it returns false'. Refute it at one input. -/
def cpuStackWrong : ChangeSpec := { name := "cpuStack", fn := fun _ => fun
  | [d1, d2] => { results := [.lit (.bool false)], args := [d1, d2] }
  | _ => none }
def CpuStackWrongFalsely : Prop := cpuStackRow.holds Tryz.pinned (OpenSpec.ofChange cpuStackWrong)

/-- 'hansomlaw16.CpuPorts': WHATEVER THE INPUT: true; the input reads as it did. -/
def cpuPortsSpec : ChangeSpec := { name := "cpuPorts", fn := fun _ => fun
  | [d1, d2, d3] => { results := [.lit (.bool true)], args := [d1, d2, d3] }
  | _ => none }
def cpuPortsRow : OpenClaim := { program := "ytcglkefaopgjeaagreatdoor", sum := "775382d1ae3583388075f6c29b91abb1d7f805348b6008c003160a064999549e", func := "hansom/hansomlaw16.CpuPorts", spec := "cpuPorts", unfollowed := true, recurses := true, named := ["hansom/addr.bases"], apart := false, laid := [("hansom/addr.bases", laid_hansom_addr_bases)] }
def CpuPortsSaid : Prop := cpuPortsRow.holds Tryz.pinned (OpenSpec.ofChange cpuPortsSpec)

/-- ITS FALSE NEIGHBOUR: 'it returns false'. Refute it at one input. -/
def cpuPortsWrong : ChangeSpec := { name := "cpuPorts", fn := fun _ => fun
  | [d1, d2, d3] => { results := [.lit (.bool false)], args := [d1, d2, d3] }
  | _ => none }
def CpuPortsWrongFalsely : Prop := cpuPortsRow.holds Tryz.pinned (OpenSpec.ofChange cpuPortsWrong)

/-- 'hansomlaw16.CpuFlags': WHATEVER THE INPUT: true; the input reads as it did. -/
def cpuFlagsSpec : ChangeSpec := { name := "cpuFlags", fn := fun _ => fun
  | [d1, d2] => { results := [.lit (.bool true)], args := [d1, d2] }
  | _ => none }
def cpuFlagsRow : OpenClaim := { program := "ytcglkefaopgjeaagreatdoor", sum := "775382d1ae3583388075f6c29b91abb1d7f805348b6008c003160a064999549e", func := "hansom/hansomlaw16.CpuFlags", spec := "cpuFlags", unfollowed := true, recurses := true, named := ["hansom/addr.bases"], apart := false, laid := [("hansom/addr.bases", laid_hansom_addr_bases)] }
def CpuFlagsSaid : Prop := cpuFlagsRow.holds Tryz.pinned (OpenSpec.ofChange cpuFlagsSpec)

/-- ITS FALSE NEIGHBOUR: 'it returns false'. Refute it at one input. -/
def cpuFlagsWrong : ChangeSpec := { name := "cpuFlags", fn := fun _ => fun
  | [d1, d2] => { results := [.lit (.bool false)], args := [d1, d2] }
  | _ => none }
def CpuFlagsWrongFalsely : Prop := cpuFlagsRow.holds Tryz.pinned (OpenSpec.ofChange cpuFlagsWrong)

/-- 'hansomlaw16.CpuRuns': WHATEVER THE INPUT: true; the input reads as it did. -/
def cpuRunsSpec : ChangeSpec := { name := "cpuRuns", fn := fun _ => fun
  | [d1, d2, d3] => { results := [.lit (.bool true)], args := [d1, d2, d3] }
  | _ => none }
def cpuRunsRow : OpenClaim := { program := "ytcglkefaopgjeaagreatdoor", sum := "775382d1ae3583388075f6c29b91abb1d7f805348b6008c003160a064999549e", func := "hansom/hansomlaw16.CpuRuns", spec := "cpuRuns", unfollowed := true, recurses := true, named := ["hansom/addr.bases"], apart := false, laid := [("hansom/addr.bases", laid_hansom_addr_bases)] }
def CpuRunsSaid : Prop := cpuRunsRow.holds Tryz.pinned (OpenSpec.ofChange cpuRunsSpec)

/-- ITS FALSE NEIGHBOUR: 'it returns false'. Refute it at one input. -/
def cpuRunsWrong : ChangeSpec := { name := "cpuRuns", fn := fun _ => fun
  | [d1, d2, d3] => { results := [.lit (.bool false)], args := [d1, d2, d3] }
  | _ => none }
def CpuRunsWrongFalsely : Prop := cpuRunsRow.holds Tryz.pinned (OpenSpec.ofChange cpuRunsWrong)

/-- 'hansomlaw47.PairRuns': WHATEVER THE INPUT: true; the input reads as it did. -/
def pairRunsSpec : ChangeSpec := { name := "pairRuns", fn := fun _ => fun
  | [d1, d2, d3] => { results := [.lit (.bool true)], args := [d1, d2, d3] }
  | _ => none }
def pairRunsRow : OpenClaim := { program := "ytcglkefaopgjeaagreatdoor", sum := "775382d1ae3583388075f6c29b91abb1d7f805348b6008c003160a064999549e", func := "hansom/hansomlaw47.PairRuns", spec := "pairRuns", unfollowed := true, recurses := true, named := ["hansom/addr.bases"], apart := false, laid := [("hansom/addr.bases", laid_hansom_addr_bases)] }
def PairRunsSaid : Prop := pairRunsRow.holds Tryz.pinned (OpenSpec.ofChange pairRunsSpec)

/-- ITS FALSE NEIGHBOUR: 'it returns false'. Refute it at one input. -/
def pairRunsWrong : ChangeSpec := { name := "pairRuns", fn := fun _ => fun
  | [d1, d2, d3] => { results := [.lit (.bool false)], args := [d1, d2, d3] }
  | _ => none }
def PairRunsWrongFalsely : Prop := pairRunsRow.holds Tryz.pinned (OpenSpec.ofChange pairRunsWrong)

/-- 'hansomlaw47.PairRaw': WHATEVER THE INPUT: true; the input reads as it did. -/
def pairRawSpec : ChangeSpec := { name := "pairRaw", fn := fun _ => fun
  | [d1, d2] => { results := [.lit (.bool true)], args := [d1, d2] }
  | _ => none }
def pairRawRow : OpenClaim := { program := "ytcglkefaopgjeaagreatdoor", sum := "775382d1ae3583388075f6c29b91abb1d7f805348b6008c003160a064999549e", func := "hansom/hansomlaw47.PairRaw", spec := "pairRaw", unfollowed := true, recurses := true, named := ["hansom/addr.bases"], apart := false, laid := [("hansom/addr.bases", laid_hansom_addr_bases)] }
def PairRawSaid : Prop := pairRawRow.holds Tryz.pinned (OpenSpec.ofChange pairRawSpec)

/-- ITS FALSE NEIGHBOUR: 'it returns false'. Refute it at one input. -/
def pairRawWrong : ChangeSpec := { name := "pairRaw", fn := fun _ => fun
  | [d1, d2] => { results := [.lit (.bool false)], args := [d1, d2] }
  | _ => none }
def PairRawWrongFalsely : Prop := pairRawRow.holds Tryz.pinned (OpenSpec.ofChange pairRawWrong)

/-- 'hansomlaw47.PairFinds': WHATEVER THE INPUT: true; the input reads as it did. -/
def pairFindsSpec : ChangeSpec := { name := "pairFinds", fn := fun _ => fun
  | [d1, d2, d3] => { results := [.lit (.bool true)], args := [d1, d2, d3] }
  | _ => none }
def pairFindsRow : OpenClaim := { program := "ytcglkefaopgjeaagreatdoor", sum := "775382d1ae3583388075f6c29b91abb1d7f805348b6008c003160a064999549e", func := "hansom/hansomlaw47.PairFinds", spec := "pairFinds", unfollowed := true, recurses := true, named := ["hansom/addr.bases"], apart := false, laid := [("hansom/addr.bases", laid_hansom_addr_bases)] }
def PairFindsSaid : Prop := pairFindsRow.holds Tryz.pinned (OpenSpec.ofChange pairFindsSpec)

/-- ITS FALSE NEIGHBOUR: 'it returns false'. Refute it at one input. -/
def pairFindsWrong : ChangeSpec := { name := "pairFinds", fn := fun _ => fun
  | [d1, d2, d3] => { results := [.lit (.bool false)], args := [d1, d2, d3] }
  | _ => none }
def PairFindsWrongFalsely : Prop := pairFindsRow.holds Tryz.pinned (OpenSpec.ofChange pairFindsWrong)

/- THE SECOND FORM. 'bulk': how many values and letters a reading holds, each counted each time it is reached (what is shared counts as often as it is met; a slice's spare places count too). A statement '..UptoSaid' is the law's where the arguments, and the package variables that the reading takes, are together of bulk at most 1048576: NARROWER than '..Said'. Prove '..Said' where nothing that the law and all that it calls make is longer than what came in: it says more and counts as full. Else prove '..UptoSaid'. A law counts once. -/
mutual
def uptoBulk {H : Type} : DataW H → Nat
  | .lit (.string bytes) => bytes.length + 1
  | .lit _ => 1
  | .nil => 1
  | .ptr d => uptoBulk d + 1
  | .slice elems spare => uptoBulkAll elems + uptoBulkAll spare + 1
  | .agg parts => uptoBulkAll parts + 1
  | .iface _ d => uptoBulk d + 1
  | .map entries => uptoBulkEntries entries + 1
  | .held _ => 1
def uptoBulkAll {H : Type} : List (DataW H) → Nat
  | [] => 0
  | d :: r => uptoBulk d + uptoBulkAll r
def uptoBulkEntries {H : Type} : List (Lit × DataW H) → Nat
  | [] => 0
  | x :: r => uptoBulkEntry x + uptoBulkEntries r
def uptoBulkEntry {H : Type} : Lit × DataW H → Nat
  | (.string bytes, d) => bytes.length + uptoBulk d + 1
  | (_, d) => uptoBulk d + 1
 end
def uptoSmall : (H : Type) → List (DataW H) → Bool := fun _ ds => decide (uptoBulkAll ds ≤ 1048576)
def OpenSpec.upto (s : _root_.Go.ChangeSpec) : _root_.Go.OpenSpec := { _root_.Go.OpenSpec.ofChange s with cond := some uptoSmall }

/-- 'hansomlaw16.CpuFetch', WHERE WHAT IT READS IS OF BULK AT MOST 1048576: true; the input reads as it did. -/
def cpuFetchUptoRow : OpenClaim := { program := "ytcglkefaopgjeaagreatdoor", sum := "775382d1ae3583388075f6c29b91abb1d7f805348b6008c003160a064999549e", func := "hansom/hansomlaw16.CpuFetch", spec := "cpuFetch", unfollowed := true, recurses := true, named := ["hansom/addr.bases"], apart := false, laid := [("hansom/addr.bases", laid_hansom_addr_bases)], narrowed := true }
def CpuFetchUptoSaid : Prop := cpuFetchUptoRow.holds Tryz.pinned (OpenSpec.upto cpuFetchSpec)

/-- 'hansomlaw16.CpuSums', WHERE WHAT IT READS IS OF BULK AT MOST 1048576: true; the input reads as it did. -/
def cpuSumsUptoRow : OpenClaim := { program := "ytcglkefaopgjeaagreatdoor", sum := "775382d1ae3583388075f6c29b91abb1d7f805348b6008c003160a064999549e", func := "hansom/hansomlaw16.CpuSums", spec := "cpuSums", unfollowed := true, recurses := true, named := ["hansom/addr.bases"], apart := false, laid := [("hansom/addr.bases", laid_hansom_addr_bases)], narrowed := true }
def CpuSumsUptoSaid : Prop := cpuSumsUptoRow.holds Tryz.pinned (OpenSpec.upto cpuSumsSpec)

/-- 'hansomlaw16.CpuOnes', WHERE WHAT IT READS IS OF BULK AT MOST 1048576: true; the input reads as it did. -/
def cpuOnesUptoRow : OpenClaim := { program := "ytcglkefaopgjeaagreatdoor", sum := "775382d1ae3583388075f6c29b91abb1d7f805348b6008c003160a064999549e", func := "hansom/hansomlaw16.CpuOnes", spec := "cpuOnes", unfollowed := true, recurses := true, named := ["hansom/addr.bases"], apart := false, laid := [("hansom/addr.bases", laid_hansom_addr_bases)], narrowed := true }
def CpuOnesUptoSaid : Prop := cpuOnesUptoRow.holds Tryz.pinned (OpenSpec.upto cpuOnesSpec)

/-- 'hansomlaw16.CpuProducts', WHERE WHAT IT READS IS OF BULK AT MOST 1048576: true; the input reads as it did. -/
def cpuProductsUptoRow : OpenClaim := { program := "ytcglkefaopgjeaagreatdoor", sum := "775382d1ae3583388075f6c29b91abb1d7f805348b6008c003160a064999549e", func := "hansom/hansomlaw16.CpuProducts", spec := "cpuProducts", unfollowed := true, recurses := true, named := ["hansom/addr.bases"], apart := false, laid := [("hansom/addr.bases", laid_hansom_addr_bases)], narrowed := true }
def CpuProductsUptoSaid : Prop := cpuProductsUptoRow.holds Tryz.pinned (OpenSpec.upto cpuProductsSpec)

/-- 'hansomlaw16.CpuStack', WHERE WHAT IT READS IS OF BULK AT MOST 1048576: true; the input reads as it did. -/
def cpuStackUptoRow : OpenClaim := { program := "ytcglkefaopgjeaagreatdoor", sum := "775382d1ae3583388075f6c29b91abb1d7f805348b6008c003160a064999549e", func := "hansom/hansomlaw16.CpuStack", spec := "cpuStack", unfollowed := true, recurses := true, named := ["hansom/addr.bases"], apart := false, laid := [("hansom/addr.bases", laid_hansom_addr_bases)], narrowed := true }
def CpuStackUptoSaid : Prop := cpuStackUptoRow.holds Tryz.pinned (OpenSpec.upto cpuStackSpec)

/-- 'hansomlaw16.CpuPorts', WHERE WHAT IT READS IS OF BULK AT MOST 1048576: true; the input reads as it did. -/
def cpuPortsUptoRow : OpenClaim := { program := "ytcglkefaopgjeaagreatdoor", sum := "775382d1ae3583388075f6c29b91abb1d7f805348b6008c003160a064999549e", func := "hansom/hansomlaw16.CpuPorts", spec := "cpuPorts", unfollowed := true, recurses := true, named := ["hansom/addr.bases"], apart := false, laid := [("hansom/addr.bases", laid_hansom_addr_bases)], narrowed := true }
def CpuPortsUptoSaid : Prop := cpuPortsUptoRow.holds Tryz.pinned (OpenSpec.upto cpuPortsSpec)

/-- 'hansomlaw16.CpuFlags', WHERE WHAT IT READS IS OF BULK AT MOST 1048576: true; the input reads as it did. -/
def cpuFlagsUptoRow : OpenClaim := { program := "ytcglkefaopgjeaagreatdoor", sum := "775382d1ae3583388075f6c29b91abb1d7f805348b6008c003160a064999549e", func := "hansom/hansomlaw16.CpuFlags", spec := "cpuFlags", unfollowed := true, recurses := true, named := ["hansom/addr.bases"], apart := false, laid := [("hansom/addr.bases", laid_hansom_addr_bases)], narrowed := true }
def CpuFlagsUptoSaid : Prop := cpuFlagsUptoRow.holds Tryz.pinned (OpenSpec.upto cpuFlagsSpec)

/-- 'hansomlaw16.CpuRuns', WHERE WHAT IT READS IS OF BULK AT MOST 1048576: true; the input reads as it did. -/
def cpuRunsUptoRow : OpenClaim := { program := "ytcglkefaopgjeaagreatdoor", sum := "775382d1ae3583388075f6c29b91abb1d7f805348b6008c003160a064999549e", func := "hansom/hansomlaw16.CpuRuns", spec := "cpuRuns", unfollowed := true, recurses := true, named := ["hansom/addr.bases"], apart := false, laid := [("hansom/addr.bases", laid_hansom_addr_bases)], narrowed := true }
def CpuRunsUptoSaid : Prop := cpuRunsUptoRow.holds Tryz.pinned (OpenSpec.upto cpuRunsSpec)

/-- 'hansomlaw47.PairRuns', WHERE WHAT IT READS IS OF BULK AT MOST 1048576: true; the input reads as it did. -/
def pairRunsUptoRow : OpenClaim := { program := "ytcglkefaopgjeaagreatdoor", sum := "775382d1ae3583388075f6c29b91abb1d7f805348b6008c003160a064999549e", func := "hansom/hansomlaw47.PairRuns", spec := "pairRuns", unfollowed := true, recurses := true, named := ["hansom/addr.bases"], apart := false, laid := [("hansom/addr.bases", laid_hansom_addr_bases)], narrowed := true }
def PairRunsUptoSaid : Prop := pairRunsUptoRow.holds Tryz.pinned (OpenSpec.upto pairRunsSpec)

/-- 'hansomlaw47.PairRaw', WHERE WHAT IT READS IS OF BULK AT MOST 1048576: true; the input reads as it did. -/
def pairRawUptoRow : OpenClaim := { program := "ytcglkefaopgjeaagreatdoor", sum := "775382d1ae3583388075f6c29b91abb1d7f805348b6008c003160a064999549e", func := "hansom/hansomlaw47.PairRaw", spec := "pairRaw", unfollowed := true, recurses := true, named := ["hansom/addr.bases"], apart := false, laid := [("hansom/addr.bases", laid_hansom_addr_bases)], narrowed := true }
def PairRawUptoSaid : Prop := pairRawUptoRow.holds Tryz.pinned (OpenSpec.upto pairRawSpec)

/-- 'hansomlaw47.PairFinds', WHERE WHAT IT READS IS OF BULK AT MOST 1048576: true; the input reads as it did. -/
def pairFindsUptoRow : OpenClaim := { program := "ytcglkefaopgjeaagreatdoor", sum := "775382d1ae3583388075f6c29b91abb1d7f805348b6008c003160a064999549e", func := "hansom/hansomlaw47.PairFinds", spec := "pairFinds", unfollowed := true, recurses := true, named := ["hansom/addr.bases"], apart := false, laid := [("hansom/addr.bases", laid_hansom_addr_bases)], narrowed := true }
def PairFindsUptoSaid : Prop := pairFindsUptoRow.holds Tryz.pinned (OpenSpec.upto pairFindsSpec)

end Rows
end Go.Proofs.YtcglkefaopgjeaaGreatDoor
