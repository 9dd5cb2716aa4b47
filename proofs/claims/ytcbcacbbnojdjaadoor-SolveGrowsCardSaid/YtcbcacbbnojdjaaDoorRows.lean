/-
  NARROWER THAN 'FOR EVERY INPUT', by the rows' own cells (each row's printed sentence says how): SolveMonotone: laid · SolveGrows: laid.
  DERIVED. THE GIVEN ROWS OF THIS SEAT. 2 by the template 'for every input the law returns true; each argument reads behind the call as it read before'; 0 by the template 'total and deterministic' (their statements: YtcbcacbbnojdjaaDoorTotals.lean).
  GIVEN WITH THE SEED: the statements are not yours to turn. If you find one false, say at which input.
  Laid BY PROGRAM, IN A SANDBOX (cutbox-rows.mjs): the forced cells as the released guide's own fill.sh prints them over the translation 091513724b2f82bc… (all of the seat's roots in one cut). By AI agents, Wed Nov 11 2026. No macro, syntax, notation, axiom, sorry.
-/
import Derived.Test.YtcbcacbbnojdjaaDoorChecked
import GoSem.Claim
import GoSem.ClaimJoined
import GoSem.ClaimMapViews
import Derived.JoinedTies
import Derived.KernelRfl
namespace Go.Proofs.YtcbcacbbnojdjaaDoor
/- THE CELL 'sum', in the pinned program and in every row, IS THE sha256 OF THE DUMP (.gsa) THAT YtcbcacbbnojdjaaDoorProg.lean LOADS. Nothing in Lean hashes anything: it is a label: what it is worth is what the hold of that sum in a sandbox is worth. -/
noncomputable def Tryd.pinned : Pinned := { name := "ytcbcacbbnojdjaadoor", sum := "091513724b2f82bcec41b1c3b8aa7d2fcd34371eb94dd544055aaea95bdbcbce", checked := Tryd.checked }
namespace Rows
def none {H : Type} : Left H := { results := [], args := [] }

/- WHAT THE LISTED PACKAGE-LEVEL VARIABLES READ AS WHEN THE CALL BEGINS. Each datum BY PROGRAM (the guide's laid-datum.mjs) off the statement by which the dump's own 'gosem.cut.vars' lays the variable. In a bare row this is a premise. The card (YtcbcacbbnojdjaaDoorCards.lean) ties it to the program's text. -/
def laid_fugue_code_bytes {H : Type} : DataW H := .agg [.lit (.int .i64 0), .lit (.int .i64 8), .lit (.int .i64 0), .lit (.int .i64 0), .lit (.int .i64 0), .lit (.int .i64 0), .lit (.int .i64 1), .lit (.int .i64 1), .lit (.int .i64 1), .lit (.int .i64 1), .lit (.int .i64 1), .lit (.int .i64 2), .lit (.int .i64 0), .lit (.int .i64 2), .lit (.int .i64 2)]
def laid_fugue_flow_tells {H : Type} : DataW H := .agg [.agg [.lit (.int .i64 0), .lit (.int .i64 0)], .agg [.lit (.int .i64 0), .lit (.int .i64 0)], .agg [.lit (.int .i64 1), .lit (.int .i64 0)], .agg [.lit (.int .i64 0), .lit (.int .i64 0)], .agg [.lit (.int .i64 0), .lit (.int .i64 0)], .agg [.lit (.int .i64 1), .lit (.int .i64 (-1))], .agg [.lit (.int .i64 3), .lit (.int .i64 (-1))], .agg [.lit (.int .i64 1), .lit (.int .i64 1)], .agg [.lit (.int .i64 2), .lit (.int .i64 0)], .agg [.lit (.int .i64 0), .lit (.int .i64 0)], .agg [.lit (.int .i64 2), .lit (.int .i64 0)], .agg [.lit (.int .i64 4), .lit (.int .i64 0)], .agg [.lit (.int .i64 0), .lit (.int .i64 0)], .agg [.lit (.int .i64 0), .lit (.int .i64 0)], .agg [.lit (.int .i64 0), .lit (.int .i64 0)], .agg [.lit (.int .i64 5), .lit (.int .i64 0)], .agg [.lit (.int .i64 0), .lit (.int .i64 0)], .agg [.lit (.int .i64 0), .lit (.int .i64 0)]]

/-- 'fuguelaw08.SolveMonotone': WHATEVER THE INPUT: true; the input reads as it did. -/
def solveMonotoneSpec : ChangeSpec := { name := "solveMonotone", fn := fun _ => fun
  | [d1, d2, d3] => { results := [.lit (.bool true)], args := [d1, d2, d3] }
  | _ => none }
def solveMonotoneRow : OpenClaim := { program := "ytcbcacbbnojdjaadoor", sum := "091513724b2f82bcec41b1c3b8aa7d2fcd34371eb94dd544055aaea95bdbcbce", func := "fugue/fuguelaw08.SolveMonotone", spec := "solveMonotone", unfollowed := true, recurses := true, named := ["fugue/code.bytes", "fugue/flow.tells"], apart := false, laid := [("fugue/code.bytes", laid_fugue_code_bytes), ("fugue/flow.tells", laid_fugue_flow_tells)] }
def SolveMonotoneSaid : Prop := solveMonotoneRow.holds Tryd.pinned (OpenSpec.ofChange solveMonotoneSpec)

/-- ITS FALSE NEIGHBOUR: 'it returns false'. Refute it at one input. -/
def solveMonotoneWrong : ChangeSpec := { name := "solveMonotone", fn := fun _ => fun
  | [d1, d2, d3] => { results := [.lit (.bool false)], args := [d1, d2, d3] }
  | _ => none }
def SolveMonotoneWrongFalsely : Prop := solveMonotoneRow.holds Tryd.pinned (OpenSpec.ofChange solveMonotoneWrong)

/-- 'fuguelaw08.SolveGrows': WHATEVER THE INPUT: true; the input reads as it did. -/
def solveGrowsSpec : ChangeSpec := { name := "solveGrows", fn := fun _ => fun
  | [d] => { results := [.lit (.bool true)], args := [d] }
  | _ => none }
def solveGrowsRow : OpenClaim := { program := "ytcbcacbbnojdjaadoor", sum := "091513724b2f82bcec41b1c3b8aa7d2fcd34371eb94dd544055aaea95bdbcbce", func := "fugue/fuguelaw08.SolveGrows", spec := "solveGrows", unfollowed := true, recurses := true, named := ["fugue/code.bytes", "fugue/flow.tells"], apart := false, laid := [("fugue/code.bytes", laid_fugue_code_bytes), ("fugue/flow.tells", laid_fugue_flow_tells)] }
def SolveGrowsSaid : Prop := solveGrowsRow.holds Tryd.pinned (OpenSpec.ofChange solveGrowsSpec)

/-- ITS FALSE NEIGHBOUR: 'it returns false'. Refute it at one input. -/
def solveGrowsWrong : ChangeSpec := { name := "solveGrows", fn := fun _ => fun
  | [d] => { results := [.lit (.bool false)], args := [d] }
  | _ => none }
def SolveGrowsWrongFalsely : Prop := solveGrowsRow.holds Tryd.pinned (OpenSpec.ofChange solveGrowsWrong)

/- THE SECOND FORM. 'bulk': how many values and letters a reading holds, each counted each time it is reached (what is shared counts as often as it is met; a slice's spare places count too). A statement '..UptoSaid' is the law's where the arguments, and the package variables that the reading takes, are together of bulk at most 1048576: NARROWER than '..Said'. Prove '..Said' where nothing that the law and all that it calls make is longer than what came in: it says more and counts as full. Else prove '..UptoSaid'. A law counts once. -/
mutual
def uptoBulk {H : Type} : DataW H → Nat
  | .lit (.string bytes) => bytes.length + 1
  | .lit _ => 1
  | .nil => 1
  | .ptr d => uptoBulk d + 1
  | .slice elems spare => uptoBulkAll elems + uptoBulkAll spare + 1
  | .agg parts => uptoBulkAll parts + 1
  | .iface _ d => uptoBulk d + 1
  | .map entries => uptoBulkEntries entries + 1
  | .held _ => 1
def uptoBulkAll {H : Type} : List (DataW H) → Nat
  | [] => 0
  | d :: r => uptoBulk d + uptoBulkAll r
def uptoBulkEntries {H : Type} : List (Lit × DataW H) → Nat
  | [] => 0
  | x :: r => uptoBulkEntry x + uptoBulkEntries r
def uptoBulkEntry {H : Type} : Lit × DataW H → Nat
  | (.string bytes, d) => bytes.length + uptoBulk d + 1
  | (_, d) => uptoBulk d + 1
 end
def uptoSmall : (H : Type) → List (DataW H) → Bool := fun _ ds => decide (uptoBulkAll ds ≤ 1048576)
def OpenSpec.upto (s : _root_.Go.ChangeSpec) : _root_.Go.OpenSpec := { _root_.Go.OpenSpec.ofChange s with cond := some uptoSmall }

/-- 'fuguelaw08.SolveMonotone', WHERE WHAT IT READS IS OF BULK AT MOST 1048576: true; the input reads as it did. -/
def solveMonotoneUptoRow : OpenClaim := { program := "ytcbcacbbnojdjaadoor", sum := "091513724b2f82bcec41b1c3b8aa7d2fcd34371eb94dd544055aaea95bdbcbce", func := "fugue/fuguelaw08.SolveMonotone", spec := "solveMonotone", unfollowed := true, recurses := true, named := ["fugue/code.bytes", "fugue/flow.tells"], apart := false, laid := [("fugue/code.bytes", laid_fugue_code_bytes), ("fugue/flow.tells", laid_fugue_flow_tells)], narrowed := true }
def SolveMonotoneUptoSaid : Prop := solveMonotoneUptoRow.holds Tryd.pinned (OpenSpec.upto solveMonotoneSpec)

/-- 'fuguelaw08.SolveGrows', WHERE WHAT IT READS IS OF BULK AT MOST 1048576: true; the input reads as it did. -/
def solveGrowsUptoRow : OpenClaim := { program := "ytcbcacbbnojdjaadoor", sum := "091513724b2f82bcec41b1c3b8aa7d2fcd34371eb94dd544055aaea95bdbcbce", func := "fugue/fuguelaw08.SolveGrows", spec := "solveGrows", unfollowed := true, recurses := true, named := ["fugue/code.bytes", "fugue/flow.tells"], apart := false, laid := [("fugue/code.bytes", laid_fugue_code_bytes), ("fugue/flow.tells", laid_fugue_flow_tells)], narrowed := true }
def SolveGrowsUptoSaid : Prop := solveGrowsUptoRow.holds Tryd.pinned (OpenSpec.upto solveGrowsSpec)

end Rows
end Go.Proofs.YtcbcacbbnojdjaaDoor
