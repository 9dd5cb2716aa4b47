/-
  DERIVED. GIVEN WITH THE SEED: THE CARDS: each row of YtcbcacbbnojdjaaDoorRows.lean that lists a variable, with what it lists TIED to the program's text (the seventh form; the later family's looks); each row that meets fmt, with fmt's text TOLD by the authors' own Lean function (tested against real Go, not proved from fmt's source: count such statements apart). THE CARD IS WHAT COUNTS. Prove the row's statement (the work); the ties are given (YtcbcacbbnojdjaaDoorTie.lean); close each card by the builder's one call (the guide's Derived/Test/ToyasCard.lean, 'card_holds'). Laid BY PROGRAM, IN A SANDBOX (cutbox-door.mjs). By AI agents, Wed Nov 11 2026. No macro, syntax, notation, axiom, sorry.
-/
import Derived.Test.YtcbcacbbnojdjaaDoorRows
import GoSem.ClaimSeven
namespace Go.Proofs.YtcbcacbbnojdjaaDoor
namespace Rows

/-- THE TIED CARD OF 'fuguelaw08.SolveMonotone'. -/
def solveMonotoneCard : Claim7 := { stood := { row := solveMonotoneRow, standIns := [], harness := (true, "e26f58c7f40aa286910db90e230513734fd9a829be62ccce195885f641cd7464"), looks := true }, kinds := [], alts := [], laidByText := true, laidKinds := [.data, .data], laidTests := true, laidLooks := .later }
def SolveMonotoneCardSaid : Prop := Claim7.holds Tryd.pinned (.plain (OpenSpec.ofChange solveMonotoneSpec)) solveMonotoneCard

/-- THE TIED CARD OF 'fuguelaw08.SolveGrows'. -/
def solveGrowsCard : Claim7 := { stood := { row := solveGrowsRow, standIns := [], harness := (true, "e26f58c7f40aa286910db90e230513734fd9a829be62ccce195885f641cd7464"), looks := true }, kinds := [], alts := [], laidByText := true, laidKinds := [.data, .data], laidTests := true, laidLooks := .later }
def SolveGrowsCardSaid : Prop := Claim7.holds Tryd.pinned (.plain (OpenSpec.ofChange solveGrowsSpec)) solveGrowsCard

/-- THE SECOND FORM's CARD OF 'fuguelaw08.SolveMonotone'. -/
def solveMonotoneUptoCard : Claim7 := { stood := { row := solveMonotoneUptoRow, standIns := [], harness := (true, "e26f58c7f40aa286910db90e230513734fd9a829be62ccce195885f641cd7464"), looks := true }, kinds := [], alts := [], laidByText := true, laidKinds := [.data, .data], laidTests := true, laidLooks := .later }
def SolveMonotoneUptoCardSaid : Prop := Claim7.holds Tryd.pinned (.plain (OpenSpec.upto solveMonotoneSpec)) solveMonotoneUptoCard

/-- THE SECOND FORM's CARD OF 'fuguelaw08.SolveGrows'. -/
def solveGrowsUptoCard : Claim7 := { stood := { row := solveGrowsUptoRow, standIns := [], harness := (true, "e26f58c7f40aa286910db90e230513734fd9a829be62ccce195885f641cd7464"), looks := true }, kinds := [], alts := [], laidByText := true, laidKinds := [.data, .data], laidTests := true, laidLooks := .later }
def SolveGrowsUptoCardSaid : Prop := Claim7.holds Tryd.pinned (.plain (OpenSpec.upto solveGrowsSpec)) solveGrowsUptoCard
end Rows
end Go.Proofs.YtcbcacbbnojdjaaDoor
