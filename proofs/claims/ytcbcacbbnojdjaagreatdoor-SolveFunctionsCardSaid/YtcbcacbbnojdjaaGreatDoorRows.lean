/-
  NARROWER THAN 'FOR EVERY INPUT', by the rows' own cells (each row's printed sentence says how): SolveFunctions: laid · SolveComponents: laid · SolveLeast: laid · SolveOwn: laid.
  DERIVED. THE GIVEN ROWS OF THIS SEAT. 4 by the template 'for every input the law returns true; each argument reads behind the call as it read before'; 0 by the template 'total and deterministic' (their statements: YtcbcacbbnojdjaaGreatDoorTotals.lean).
  GIVEN WITH THE SEED: the statements are not yours to turn. If you find one false, say at which input.
  Laid BY PROGRAM, IN A SANDBOX (cutbox-rows.mjs): the forced cells as the released guide's own fill.sh prints them over the translation b1f03765b0e6fee1… (all of the seat's roots in one cut). By AI agents, Wed Nov 11 2026. No macro, syntax, notation, axiom, sorry.
-/
import Derived.Test.YtcbcacbbnojdjaaGreatDoorChecked
import GoSem.Claim
import GoSem.ClaimJoined
import GoSem.ClaimMapViews
import Derived.JoinedTies
import Derived.KernelRfl
namespace Go.Proofs.YtcbcacbbnojdjaaGreatDoor
/- THE CELL 'sum', in the pinned program and in every row, IS THE sha256 OF THE DUMP (.gsa) THAT YtcbcacbbnojdjaaGreatDoorProg.lean LOADS. Nothing in Lean hashes anything: it is a label: what it is worth is what the hold of that sum in a sandbox is worth. -/
noncomputable def Tryz.pinned : Pinned := { name := "ytcbcacbbnojdjaagreatdoor", sum := "b1f03765b0e6fee15576176d218126d44ec3f8103b94ff6b27a2a461014457dc", checked := Tryz.checked }
namespace Rows
def none {H : Type} : Left H := { results := [], args := [] }

/- WHAT THE LISTED PACKAGE-LEVEL VARIABLES READ AS WHEN THE CALL BEGINS. Each datum BY PROGRAM (the guide's laid-datum.mjs) off the statement by which the dump's own 'gosem.cut.vars' lays the variable. In a bare row this is a premise. The card (YtcbcacbbnojdjaaGreatDoorCards.lean) ties it to the program's text. -/
def laid_fugue_code_bytes {H : Type} : DataW H := .agg [.lit (.int .i64 0), .lit (.int .i64 8), .lit (.int .i64 0), .lit (.int .i64 0), .lit (.int .i64 0), .lit (.int .i64 0), .lit (.int .i64 1), .lit (.int .i64 1), .lit (.int .i64 1), .lit (.int .i64 1), .lit (.int .i64 1), .lit (.int .i64 2), .lit (.int .i64 0), .lit (.int .i64 2), .lit (.int .i64 2)]
def laid_fugue_flow_tells {H : Type} : DataW H := .agg [.agg [.lit (.int .i64 0), .lit (.int .i64 0)], .agg [.lit (.int .i64 0), .lit (.int .i64 0)], .agg [.lit (.int .i64 1), .lit (.int .i64 0)], .agg [.lit (.int .i64 0), .lit (.int .i64 0)], .agg [.lit (.int .i64 0), .lit (.int .i64 0)], .agg [.lit (.int .i64 1), .lit (.int .i64 (-1))], .agg [.lit (.int .i64 3), .lit (.int .i64 (-1))], .agg [.lit (.int .i64 1), .lit (.int .i64 1)], .agg [.lit (.int .i64 2), .lit (.int .i64 0)], .agg [.lit (.int .i64 0), .lit (.int .i64 0)], .agg [.lit (.int .i64 2), .lit (.int .i64 0)], .agg [.lit (.int .i64 4), .lit (.int .i64 0)], .agg [.lit (.int .i64 0), .lit (.int .i64 0)], .agg [.lit (.int .i64 0), .lit (.int .i64 0)], .agg [.lit (.int .i64 0), .lit (.int .i64 0)], .agg [.lit (.int .i64 5), .lit (.int .i64 0)], .agg [.lit (.int .i64 0), .lit (.int .i64 0)], .agg [.lit (.int .i64 0), .lit (.int .i64 0)]]

/-- 'fuguelaw08.SolveFunctions': WHATEVER THE INPUT: true; the input reads as it did. -/
def solveFunctionsSpec : ChangeSpec := { name := "solveFunctions", fn := fun _ => fun
  | [d1, d2, d3] => { results := [.lit (.bool true)], args := [d1, d2, d3] }
  | _ => none }
def solveFunctionsRow : OpenClaim := { program := "ytcbcacbbnojdjaagreatdoor", sum := "b1f03765b0e6fee15576176d218126d44ec3f8103b94ff6b27a2a461014457dc", func := "fugue/fuguelaw08.SolveFunctions", spec := "solveFunctions", unfollowed := true, recurses := true, named := ["fugue/code.bytes", "fugue/flow.tells"], apart := false, laid := [("fugue/code.bytes", laid_fugue_code_bytes), ("fugue/flow.tells", laid_fugue_flow_tells)] }
def SolveFunctionsSaid : Prop := solveFunctionsRow.holds Tryz.pinned (OpenSpec.ofChange solveFunctionsSpec)

/-- ITS FALSE NEIGHBOUR: 'it returns false'. Refute it at one input. -/
def solveFunctionsWrong : ChangeSpec := { name := "solveFunctions", fn := fun _ => fun
  | [d1, d2, d3] => { results := [.lit (.bool false)], args := [d1, d2, d3] }
  | _ => none }
def SolveFunctionsWrongFalsely : Prop := solveFunctionsRow.holds Tryz.pinned (OpenSpec.ofChange solveFunctionsWrong)

/-- 'fuguelaw08.SolveComponents': WHATEVER THE INPUT: true; the input reads as it did. -/
def solveComponentsSpec : ChangeSpec := { name := "solveComponents", fn := fun _ => fun
  | [d] => { results := [.lit (.bool true)], args := [d] }
  | _ => none }
def solveComponentsRow : OpenClaim := { program := "ytcbcacbbnojdjaagreatdoor", sum := "b1f03765b0e6fee15576176d218126d44ec3f8103b94ff6b27a2a461014457dc", func := "fugue/fuguelaw08.SolveComponents", spec := "solveComponents", unfollowed := true, recurses := true, named := ["fugue/code.bytes", "fugue/flow.tells"], apart := false, laid := [("fugue/code.bytes", laid_fugue_code_bytes), ("fugue/flow.tells", laid_fugue_flow_tells)] }
def SolveComponentsSaid : Prop := solveComponentsRow.holds Tryz.pinned (OpenSpec.ofChange solveComponentsSpec)

/-- ITS FALSE NEIGHBOUR: 'it returns false'. Refute it at one input. -/
def solveComponentsWrong : ChangeSpec := { name := "solveComponents", fn := fun _ => fun
  | [d] => { results := [.lit (.bool false)], args := [d] }
  | _ => none }
def SolveComponentsWrongFalsely : Prop := solveComponentsRow.holds Tryz.pinned (OpenSpec.ofChange solveComponentsWrong)

/-- 'fuguelaw08.SolveLeast': WHATEVER THE INPUT: true; the input reads as it did. -/
def solveLeastSpec : ChangeSpec := { name := "solveLeast", fn := fun _ => fun
  | [d] => { results := [.lit (.bool true)], args := [d] }
  | _ => none }
def solveLeastRow : OpenClaim := { program := "ytcbcacbbnojdjaagreatdoor", sum := "b1f03765b0e6fee15576176d218126d44ec3f8103b94ff6b27a2a461014457dc", func := "fugue/fuguelaw08.SolveLeast", spec := "solveLeast", unfollowed := true, recurses := true, named := ["fugue/code.bytes", "fugue/flow.tells"], apart := false, laid := [("fugue/code.bytes", laid_fugue_code_bytes), ("fugue/flow.tells", laid_fugue_flow_tells)] }
def SolveLeastSaid : Prop := solveLeastRow.holds Tryz.pinned (OpenSpec.ofChange solveLeastSpec)

/-- ITS FALSE NEIGHBOUR: 'it returns false'. Refute it at one input. -/
def solveLeastWrong : ChangeSpec := { name := "solveLeast", fn := fun _ => fun
  | [d] => { results := [.lit (.bool false)], args := [d] }
  | _ => none }
def SolveLeastWrongFalsely : Prop := solveLeastRow.holds Tryz.pinned (OpenSpec.ofChange solveLeastWrong)

/-- 'fuguelaw08.SolveOwn': WHATEVER THE INPUT: true; the input reads as it did. -/
def solveOwnSpec : ChangeSpec := { name := "solveOwn", fn := fun _ => fun
  | [d1, d2] => { results := [.lit (.bool true)], args := [d1, d2] }
  | _ => none }
def solveOwnRow : OpenClaim := { program := "ytcbcacbbnojdjaagreatdoor", sum := "b1f03765b0e6fee15576176d218126d44ec3f8103b94ff6b27a2a461014457dc", func := "fugue/fuguelaw08.SolveOwn", spec := "solveOwn", unfollowed := true, recurses := true, named := ["fugue/code.bytes", "fugue/flow.tells"], apart := false, laid := [("fugue/code.bytes", laid_fugue_code_bytes), ("fugue/flow.tells", laid_fugue_flow_tells)] }
def SolveOwnSaid : Prop := solveOwnRow.holds Tryz.pinned (OpenSpec.ofChange solveOwnSpec)

/-- ITS FALSE NEIGHBOUR: 'it returns false'. Refute it at one input. -/
def solveOwnWrong : ChangeSpec := { name := "solveOwn", fn := fun _ => fun
  | [d1, d2] => { results := [.lit (.bool false)], args := [d1, d2] }
  | _ => none }
def SolveOwnWrongFalsely : Prop := solveOwnRow.holds Tryz.pinned (OpenSpec.ofChange solveOwnWrong)

/- THE SECOND FORM. 'bulk': how many values and letters a reading holds, each counted each time it is reached (what is shared counts as often as it is met; a slice's spare places count too). A statement '..UptoSaid' is the law's where the arguments, and the package variables that the reading takes, are together of bulk at most 1048576: NARROWER than '..Said'. Prove '..Said' where nothing that the law and all that it calls make is longer than what came in: it says more and counts as full. Else prove '..UptoSaid'. A law counts once. -/
mutual
def uptoBulk {H : Type} : DataW H → Nat
  | .lit (.string bytes) => bytes.length + 1
  | .lit _ => 1
  | .nil => 1
  | .ptr d => uptoBulk d + 1
  | .slice elems spare => uptoBulkAll elems + uptoBulkAll spare + 1
  | .agg parts => uptoBulkAll parts + 1
  | .iface _ d => uptoBulk d + 1
  | .map entries => uptoBulkEntries entries + 1
  | .held _ => 1
def uptoBulkAll {H : Type} : List (DataW H) → Nat
  | [] => 0
  | d :: r => uptoBulk d + uptoBulkAll r
def uptoBulkEntries {H : Type} : List (Lit × DataW H) → Nat
  | [] => 0
  | x :: r => uptoBulkEntry x + uptoBulkEntries r
def uptoBulkEntry {H : Type} : Lit × DataW H → Nat
  | (.string bytes, d) => bytes.length + uptoBulk d + 1
  | (_, d) => uptoBulk d + 1
 end
def uptoSmall : (H : Type) → List (DataW H) → Bool := fun _ ds => decide (uptoBulkAll ds ≤ 1048576)
def OpenSpec.upto (s : _root_.Go.ChangeSpec) : _root_.Go.OpenSpec := { _root_.Go.OpenSpec.ofChange s with cond := some uptoSmall }

/-- 'fuguelaw08.SolveFunctions', WHERE WHAT IT READS IS OF BULK AT MOST 1048576: true; the input reads as it did. -/
def solveFunctionsUptoRow : OpenClaim := { program := "ytcbcacbbnojdjaagreatdoor", sum := "b1f03765b0e6fee15576176d218126d44ec3f8103b94ff6b27a2a461014457dc", func := "fugue/fuguelaw08.SolveFunctions", spec := "solveFunctions", unfollowed := true, recurses := true, named := ["fugue/code.bytes", "fugue/flow.tells"], apart := false, laid := [("fugue/code.bytes", laid_fugue_code_bytes), ("fugue/flow.tells", laid_fugue_flow_tells)], narrowed := true }
def SolveFunctionsUptoSaid : Prop := solveFunctionsUptoRow.holds Tryz.pinned (OpenSpec.upto solveFunctionsSpec)

/-- 'fuguelaw08.SolveComponents', WHERE WHAT IT READS IS OF BULK AT MOST 1048576: true; the input reads as it did. -/
def solveComponentsUptoRow : OpenClaim := { program := "ytcbcacbbnojdjaagreatdoor", sum := "b1f03765b0e6fee15576176d218126d44ec3f8103b94ff6b27a2a461014457dc", func := "fugue/fuguelaw08.SolveComponents", spec := "solveComponents", unfollowed := true, recurses := true, named := ["fugue/code.bytes", "fugue/flow.tells"], apart := false, laid := [("fugue/code.bytes", laid_fugue_code_bytes), ("fugue/flow.tells", laid_fugue_flow_tells)], narrowed := true }
def SolveComponentsUptoSaid : Prop := solveComponentsUptoRow.holds Tryz.pinned (OpenSpec.upto solveComponentsSpec)

/-- 'fuguelaw08.SolveLeast', WHERE WHAT IT READS IS OF BULK AT MOST 1048576: true; the input reads as it did. -/
def solveLeastUptoRow : OpenClaim := { program := "ytcbcacbbnojdjaagreatdoor", sum := "b1f03765b0e6fee15576176d218126d44ec3f8103b94ff6b27a2a461014457dc", func := "fugue/fuguelaw08.SolveLeast", spec := "solveLeast", unfollowed := true, recurses := true, named := ["fugue/code.bytes", "fugue/flow.tells"], apart := false, laid := [("fugue/code.bytes", laid_fugue_code_bytes), ("fugue/flow.tells", laid_fugue_flow_tells)], narrowed := true }
def SolveLeastUptoSaid : Prop := solveLeastUptoRow.holds Tryz.pinned (OpenSpec.upto solveLeastSpec)

/-- 'fuguelaw08.SolveOwn', WHERE WHAT IT READS IS OF BULK AT MOST 1048576: true; the input reads as it did. -/
def solveOwnUptoRow : OpenClaim := { program := "ytcbcacbbnojdjaagreatdoor", sum := "b1f03765b0e6fee15576176d218126d44ec3f8103b94ff6b27a2a461014457dc", func := "fugue/fuguelaw08.SolveOwn", spec := "solveOwn", unfollowed := true, recurses := true, named := ["fugue/code.bytes", "fugue/flow.tells"], apart := false, laid := [("fugue/code.bytes", laid_fugue_code_bytes), ("fugue/flow.tells", laid_fugue_flow_tells)], narrowed := true }
def SolveOwnUptoSaid : Prop := solveOwnUptoRow.holds Tryz.pinned (OpenSpec.upto solveOwnSpec)

end Rows
end Go.Proofs.YtcbcacbbnojdjaaGreatDoor
