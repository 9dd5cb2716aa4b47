/-
  The mutex's numbers in this translation, and small facts on blocks of cells.
-/
import Derived.Test.YteohlbnmmlejnaaProg
import Derived.WalkKit
import Derived.Below
import Derived.Deep.Draws
import Derived.BigQuiet
import Derived.Deep.LoopGhost
import Derived.OwnWalk
import Derived.Laws.MakeOwn
import Derived.Conc.MuLone
import Derived.KernelRfl
namespace Go.Proofs.Yteohlbnmmlejnaa
open Go.RowKit

abbrev muLink : Go.Conc.Locks.MuLink := { lock := 37, unlock := 38, ilock := 45, iunlock := 46, lockSlow := 56, unlockSlow := 59, disable := 52, enable := 54, acquire := 55, relMerge := 57, cas32 := 53, add32 := 58, tMutex := 72, tIMutex := 70, tPMutex := 84, tPIMutex := 89, tPI32 := 91, tUP := 93, tNoCopy := 67, tU32 := 68 }
theorem muLib : Go.Conc.Locks.MuLib Try.prog muLink := by
  constructor <;> first | kernel_rfl | (intro w; kernel_rfl)

end Go.Proofs.Yteohlbnmmlejnaa
