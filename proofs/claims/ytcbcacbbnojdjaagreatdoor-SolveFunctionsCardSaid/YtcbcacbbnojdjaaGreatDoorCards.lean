/-
  DERIVED. GIVEN WITH THE SEED: THE CARDS: each row of YtcbcacbbnojdjaaGreatDoorRows.lean that lists a variable, with what it lists TIED to the program's text (the seventh form; the later family's looks); each row that meets fmt, with fmt's text TOLD by the authors' own Lean function (tested against real Go, not proved from fmt's source: count such statements apart). THE CARD IS WHAT COUNTS. Prove the row's statement (the work); the ties are given (YtcbcacbbnojdjaaGreatDoorTie.lean); close each card by the builder's one call (the guide's Derived/Test/ToyasCard.lean, 'card_holds'). Laid BY PROGRAM, IN A SANDBOX (cutbox-door.mjs). By AI agents, Wed Nov 11 2026. No macro, syntax, notation, axiom, sorry.
-/
import Derived.Test.YtcbcacbbnojdjaaGreatDoorRows
import GoSem.ClaimSeven
namespace Go.Proofs.YtcbcacbbnojdjaaGreatDoor
namespace Rows

/-- THE TIED CARD OF 'fuguelaw08.SolveFunctions'. -/
def solveFunctionsCard : Claim7 := { stood := { row := solveFunctionsRow, standIns := [], harness := (true, "e1219fbfab2d5b2d9c975092a93e37eabc92fac585171e9e727259b5461aae01"), looks := true }, kinds := [], alts := [], laidByText := true, laidKinds := [.data, .data], laidTests := true, laidLooks := .later }
def SolveFunctionsCardSaid : Prop := Claim7.holds Tryz.pinned (.plain (OpenSpec.ofChange solveFunctionsSpec)) solveFunctionsCard

/-- THE TIED CARD OF 'fuguelaw08.SolveComponents'. -/
def solveComponentsCard : Claim7 := { stood := { row := solveComponentsRow, standIns := [], harness := (true, "e1219fbfab2d5b2d9c975092a93e37eabc92fac585171e9e727259b5461aae01"), looks := true }, kinds := [], alts := [], laidByText := true, laidKinds := [.data, .data], laidTests := true, laidLooks := .later }
def SolveComponentsCardSaid : Prop := Claim7.holds Tryz.pinned (.plain (OpenSpec.ofChange solveComponentsSpec)) solveComponentsCard

/-- THE TIED CARD OF 'fuguelaw08.SolveLeast'. -/
def solveLeastCard : Claim7 := { stood := { row := solveLeastRow, standIns := [], harness := (true, "e1219fbfab2d5b2d9c975092a93e37eabc92fac585171e9e727259b5461aae01"), looks := true }, kinds := [], alts := [], laidByText := true, laidKinds := [.data, .data], laidTests := true, laidLooks := .later }
def SolveLeastCardSaid : Prop := Claim7.holds Tryz.pinned (.plain (OpenSpec.ofChange solveLeastSpec)) solveLeastCard

/-- THE TIED CARD OF 'fuguelaw08.SolveOwn'. -/
def solveOwnCard : Claim7 := { stood := { row := solveOwnRow, standIns := [], harness := (true, "e1219fbfab2d5b2d9c975092a93e37eabc92fac585171e9e727259b5461aae01"), looks := true }, kinds := [], alts := [], laidByText := true, laidKinds := [.data, .data], laidTests := true, laidLooks := .later }
def SolveOwnCardSaid : Prop := Claim7.holds Tryz.pinned (.plain (OpenSpec.ofChange solveOwnSpec)) solveOwnCard

/-- THE SECOND FORM's CARD OF 'fuguelaw08.SolveFunctions'. -/
def solveFunctionsUptoCard : Claim7 := { stood := { row := solveFunctionsUptoRow, standIns := [], harness := (true, "e1219fbfab2d5b2d9c975092a93e37eabc92fac585171e9e727259b5461aae01"), looks := true }, kinds := [], alts := [], laidByText := true, laidKinds := [.data, .data], laidTests := true, laidLooks := .later }
def SolveFunctionsUptoCardSaid : Prop := Claim7.holds Tryz.pinned (.plain (OpenSpec.upto solveFunctionsSpec)) solveFunctionsUptoCard

/-- THE SECOND FORM's CARD OF 'fuguelaw08.SolveComponents'. -/
def solveComponentsUptoCard : Claim7 := { stood := { row := solveComponentsUptoRow, standIns := [], harness := (true, "e1219fbfab2d5b2d9c975092a93e37eabc92fac585171e9e727259b5461aae01"), looks := true }, kinds := [], alts := [], laidByText := true, laidKinds := [.data, .data], laidTests := true, laidLooks := .later }
def SolveComponentsUptoCardSaid : Prop := Claim7.holds Tryz.pinned (.plain (OpenSpec.upto solveComponentsSpec)) solveComponentsUptoCard

/-- THE SECOND FORM's CARD OF 'fuguelaw08.SolveLeast'. -/
def solveLeastUptoCard : Claim7 := { stood := { row := solveLeastUptoRow, standIns := [], harness := (true, "e1219fbfab2d5b2d9c975092a93e37eabc92fac585171e9e727259b5461aae01"), looks := true }, kinds := [], alts := [], laidByText := true, laidKinds := [.data, .data], laidTests := true, laidLooks := .later }
def SolveLeastUptoCardSaid : Prop := Claim7.holds Tryz.pinned (.plain (OpenSpec.upto solveLeastSpec)) solveLeastUptoCard

/-- THE SECOND FORM's CARD OF 'fuguelaw08.SolveOwn'. -/
def solveOwnUptoCard : Claim7 := { stood := { row := solveOwnUptoRow, standIns := [], harness := (true, "e1219fbfab2d5b2d9c975092a93e37eabc92fac585171e9e727259b5461aae01"), looks := true }, kinds := [], alts := [], laidByText := true, laidKinds := [.data, .data], laidTests := true, laidLooks := .later }
def SolveOwnUptoCardSaid : Prop := Claim7.holds Tryz.pinned (.plain (OpenSpec.upto solveOwnSpec)) solveOwnUptoCard
end Rows
end Go.Proofs.YtcbcacbbnojdjaaGreatDoor
