/-
  No cell of these rows narrows 'for every input' (looked for: loops, veiled, ifaces, maps, wideKeys, modest, calm, conditions, laid).
  DERIVED. THE GIVEN ROWS OF THIS SEAT. 5 by the template 'for every input the law returns true; each argument reads behind the call as it read before'; 0 by the template 'total and deterministic' (their statements: YteohlbnmmlejnaaTotals.lean).
  GIVEN WITH THE SEED: the statements are not yours to turn. If you find one false, say at which input.
  Laid BY PROGRAM, IN A SANDBOX (cutbox-rows.mjs): the forced cells as the released guide's own fill.sh prints them over the translation 4c4499bebdf23b9d… (all of the seat's roots in one cut). By AI agents, Wed Nov 11 2026. No macro, syntax, notation, axiom, sorry.
-/
import Derived.Test.YteohlbnmmlejnaaChecked
import GoSem.Claim
import GoSem.ClaimJoined
import GoSem.ClaimMapViews
import Derived.JoinedTies
import Derived.KernelRfl
namespace Go.Proofs.Yteohlbnmmlejnaa
/- THE CELL 'sum', in the pinned program and in every row, IS THE sha256 OF THE DUMP (.gsa) THAT YteohlbnmmlejnaaProg.lean LOADS. Nothing in Lean hashes anything: it is a label: what it is worth is what the hold of that sum in a sandbox is worth. -/
noncomputable def Try.pinned : Pinned := { name := "yteohlbnmmlejnaa", sum := "4c4499bebdf23b9d86c0f94bc76cc35dc2bafd204613de8cd61d865bdcf54fbf", checked := Try.checked }
namespace Rows
def none {H : Type} : Left H := { results := [], args := [] }

/-- 'fuguelaw08.SolveLowests': WHATEVER THE INPUT: true; the input reads as it did. -/
def solveLowestsSpec : ChangeSpec := { name := "solveLowests", fn := fun _ => fun
  | [d] => { results := [.lit (.bool true)], args := [d] }
  | _ => none }
def solveLowestsRow : OpenClaim := { program := "yteohlbnmmlejnaa", sum := "4c4499bebdf23b9d86c0f94bc76cc35dc2bafd204613de8cd61d865bdcf54fbf", func := "fugue/fuguelaw08.SolveLowests", spec := "solveLowests", apart := false }
def SolveLowestsSaid : Prop := solveLowestsRow.holds Try.pinned (OpenSpec.ofChange solveLowestsSpec)

/-- ITS FALSE NEIGHBOUR: 'it returns false'. Refute it at one input. -/
def solveLowestsWrong : ChangeSpec := { name := "solveLowests", fn := fun _ => fun
  | [d] => { results := [.lit (.bool false)], args := [d] }
  | _ => none }
def SolveLowestsWrongFalsely : Prop := solveLowestsRow.holds Try.pinned (OpenSpec.ofChange solveLowestsWrong)

/-- 'fuguelaw12.DequeCalls': WHATEVER THE INPUT: true; the input reads as it did. -/
def dequeCallsSpec : ChangeSpec := { name := "dequeCalls", fn := fun _ => fun
  | [d] => { results := [.lit (.bool true)], args := [d] }
  | _ => none }
def dequeCallsRow : OpenClaim := { program := "yteohlbnmmlejnaa", sum := "4c4499bebdf23b9d86c0f94bc76cc35dc2bafd204613de8cd61d865bdcf54fbf", func := "fugue/fuguelaw12.DequeCalls", spec := "dequeCalls", inPlace := ["(*internal/sync.Mutex).Lock", "internal/race.Disable", "sync/atomic.CompareAndSwapInt32", "internal/race.Enable", "internal/race.Acquire", "(*internal/sync.Mutex).lockSlow", "internal/sync.runtime_canSpin", "internal/sync.runtime_doSpin", "internal/sync.throw", "internal/sync.runtime_nanotime", "internal/sync.runtime_SemacquireMutex", "sync/atomic.AddInt32", "(*internal/sync.Mutex).Unlock", "internal/race.ReleaseMerge", "(*internal/sync.Mutex).unlockSlow", "internal/sync.fatal", "internal/sync.runtime_Semrelease"], apart := false }
def DequeCallsSaid : Prop := dequeCallsRow.holds Try.pinned (OpenSpec.ofChange dequeCallsSpec)

/-- ITS FALSE NEIGHBOUR: 'it returns false'. Refute it at one input. -/
def dequeCallsWrong : ChangeSpec := { name := "dequeCalls", fn := fun _ => fun
  | [d] => { results := [.lit (.bool false)], args := [d] }
  | _ => none }
def DequeCallsWrongFalsely : Prop := dequeCallsRow.holds Try.pinned (OpenSpec.ofChange dequeCallsWrong)

/-- 'fuguelaw12.DequeOnce': WHATEVER THE INPUT: true; the input reads as it did. -/
def dequeOnceSpec : ChangeSpec := { name := "dequeOnce", fn := fun _ => fun
  | [d] => { results := [.lit (.bool true)], args := [d] }
  | _ => none }
def dequeOnceRow : OpenClaim := { program := "yteohlbnmmlejnaa", sum := "4c4499bebdf23b9d86c0f94bc76cc35dc2bafd204613de8cd61d865bdcf54fbf", func := "fugue/fuguelaw12.DequeOnce", spec := "dequeOnce", inPlace := ["(*internal/sync.Mutex).Lock", "internal/race.Disable", "sync/atomic.CompareAndSwapInt32", "internal/race.Enable", "internal/race.Acquire", "(*internal/sync.Mutex).lockSlow", "internal/sync.runtime_canSpin", "internal/sync.runtime_doSpin", "internal/sync.throw", "internal/sync.runtime_nanotime", "internal/sync.runtime_SemacquireMutex", "sync/atomic.AddInt32", "(*internal/sync.Mutex).Unlock", "internal/race.ReleaseMerge", "(*internal/sync.Mutex).unlockSlow", "internal/sync.fatal", "internal/sync.runtime_Semrelease"], apart := false }
def DequeOnceSaid : Prop := dequeOnceRow.holds Try.pinned (OpenSpec.ofChange dequeOnceSpec)

/-- ITS FALSE NEIGHBOUR: 'it returns false'. Refute it at one input. -/
def dequeOnceWrong : ChangeSpec := { name := "dequeOnce", fn := fun _ => fun
  | [d] => { results := [.lit (.bool false)], args := [d] }
  | _ => none }
def DequeOnceWrongFalsely : Prop := dequeOnceRow.holds Try.pinned (OpenSpec.ofChange dequeOnceWrong)

/-- 'fuguelaw12.DequeLong': WHATEVER THE INPUT: true; the input reads as it did. -/
def dequeLongSpec : ChangeSpec := { name := "dequeLong", fn := fun _ => fun
  | [d1, d2] => { results := [.lit (.bool true)], args := [d1, d2] }
  | _ => none }
def dequeLongRow : OpenClaim := { program := "yteohlbnmmlejnaa", sum := "4c4499bebdf23b9d86c0f94bc76cc35dc2bafd204613de8cd61d865bdcf54fbf", func := "fugue/fuguelaw12.DequeLong", spec := "dequeLong", inPlace := ["(*internal/sync.Mutex).Lock", "internal/race.Disable", "sync/atomic.CompareAndSwapInt32", "internal/race.Enable", "internal/race.Acquire", "(*internal/sync.Mutex).lockSlow", "internal/sync.runtime_canSpin", "internal/sync.runtime_doSpin", "internal/sync.throw", "internal/sync.runtime_nanotime", "internal/sync.runtime_SemacquireMutex", "sync/atomic.AddInt32", "(*internal/sync.Mutex).Unlock", "internal/race.ReleaseMerge", "(*internal/sync.Mutex).unlockSlow", "internal/sync.fatal", "internal/sync.runtime_Semrelease"], apart := false }
def DequeLongSaid : Prop := dequeLongRow.holds Try.pinned (OpenSpec.ofChange dequeLongSpec)

/-- ITS FALSE NEIGHBOUR: 'it returns false'. Refute it at one input. -/
def dequeLongWrong : ChangeSpec := { name := "dequeLong", fn := fun _ => fun
  | [d1, d2] => { results := [.lit (.bool false)], args := [d1, d2] }
  | _ => none }
def DequeLongWrongFalsely : Prop := dequeLongRow.holds Try.pinned (OpenSpec.ofChange dequeLongWrong)

/-- 'fuguelaw12.DequeMoves': WHATEVER THE INPUT: true; the input reads as it did. -/
def dequeMovesSpec : ChangeSpec := { name := "dequeMoves", fn := fun _ => fun
  | [d] => { results := [.lit (.bool true)], args := [d] }
  | _ => none }
def dequeMovesRow : OpenClaim := { program := "yteohlbnmmlejnaa", sum := "4c4499bebdf23b9d86c0f94bc76cc35dc2bafd204613de8cd61d865bdcf54fbf", func := "fugue/fuguelaw12.DequeMoves", spec := "dequeMoves", inPlace := ["(*internal/sync.Mutex).Lock", "internal/race.Disable", "sync/atomic.CompareAndSwapInt32", "internal/race.Enable", "internal/race.Acquire", "(*internal/sync.Mutex).lockSlow", "internal/sync.runtime_canSpin", "internal/sync.runtime_doSpin", "internal/sync.throw", "internal/sync.runtime_nanotime", "internal/sync.runtime_SemacquireMutex", "sync/atomic.AddInt32", "(*internal/sync.Mutex).Unlock", "internal/race.ReleaseMerge", "(*internal/sync.Mutex).unlockSlow", "internal/sync.fatal", "internal/sync.runtime_Semrelease"], apart := false }
def DequeMovesSaid : Prop := dequeMovesRow.holds Try.pinned (OpenSpec.ofChange dequeMovesSpec)

/-- ITS FALSE NEIGHBOUR: 'it returns false'. Refute it at one input. -/
def dequeMovesWrong : ChangeSpec := { name := "dequeMoves", fn := fun _ => fun
  | [d] => { results := [.lit (.bool false)], args := [d] }
  | _ => none }
def DequeMovesWrongFalsely : Prop := dequeMovesRow.holds Try.pinned (OpenSpec.ofChange dequeMovesWrong)

/- THE SECOND FORM. 'bulk': how many values and letters a reading holds, each counted each time it is reached (what is shared counts as often as it is met; a slice's spare places count too). A statement '..UptoSaid' is the law's where the arguments, and the package variables that the reading takes, are together of bulk at most 1048576: NARROWER than '..Said'. Prove '..Said' where nothing that the law and all that it calls make is longer than what came in: it says more and counts as full. Else prove '..UptoSaid'. A law counts once. -/
mutual
def uptoBulk {H : Type} : DataW H → Nat
  | .lit (.string bytes) => bytes.length + 1
  | .lit _ => 1
  | .nil => 1
  | .ptr d => uptoBulk d + 1
  | .slice elems spare => uptoBulkAll elems + uptoBulkAll spare + 1
  | .agg parts => uptoBulkAll parts + 1
  | .iface _ d => uptoBulk d + 1
  | .map entries => uptoBulkEntries entries + 1
  | .held _ => 1
def uptoBulkAll {H : Type} : List (DataW H) → Nat
  | [] => 0
  | d :: r => uptoBulk d + uptoBulkAll r
def uptoBulkEntries {H : Type} : List (Lit × DataW H) → Nat
  | [] => 0
  | x :: r => uptoBulkEntry x + uptoBulkEntries r
def uptoBulkEntry {H : Type} : Lit × DataW H → Nat
  | (.string bytes, d) => bytes.length + uptoBulk d + 1
  | (_, d) => uptoBulk d + 1
 end
def uptoSmall : (H : Type) → List (DataW H) → Bool := fun _ ds => decide (uptoBulkAll ds ≤ 1048576)
def OpenSpec.upto (s : _root_.Go.ChangeSpec) : _root_.Go.OpenSpec := { _root_.Go.OpenSpec.ofChange s with cond := some uptoSmall }

/-- 'fuguelaw08.SolveLowests', WHERE WHAT IT READS IS OF BULK AT MOST 1048576: true; the input reads as it did. -/
def solveLowestsUptoRow : OpenClaim := { program := "yteohlbnmmlejnaa", sum := "4c4499bebdf23b9d86c0f94bc76cc35dc2bafd204613de8cd61d865bdcf54fbf", func := "fugue/fuguelaw08.SolveLowests", spec := "solveLowests", apart := false, narrowed := true }
def SolveLowestsUptoSaid : Prop := solveLowestsUptoRow.holds Try.pinned (OpenSpec.upto solveLowestsSpec)

/-- 'fuguelaw12.DequeCalls', WHERE WHAT IT READS IS OF BULK AT MOST 1048576: true; the input reads as it did. -/
def dequeCallsUptoRow : OpenClaim := { program := "yteohlbnmmlejnaa", sum := "4c4499bebdf23b9d86c0f94bc76cc35dc2bafd204613de8cd61d865bdcf54fbf", func := "fugue/fuguelaw12.DequeCalls", spec := "dequeCalls", inPlace := ["(*internal/sync.Mutex).Lock", "internal/race.Disable", "sync/atomic.CompareAndSwapInt32", "internal/race.Enable", "internal/race.Acquire", "(*internal/sync.Mutex).lockSlow", "internal/sync.runtime_canSpin", "internal/sync.runtime_doSpin", "internal/sync.throw", "internal/sync.runtime_nanotime", "internal/sync.runtime_SemacquireMutex", "sync/atomic.AddInt32", "(*internal/sync.Mutex).Unlock", "internal/race.ReleaseMerge", "(*internal/sync.Mutex).unlockSlow", "internal/sync.fatal", "internal/sync.runtime_Semrelease"], apart := false, narrowed := true }
def DequeCallsUptoSaid : Prop := dequeCallsUptoRow.holds Try.pinned (OpenSpec.upto dequeCallsSpec)

/-- 'fuguelaw12.DequeOnce', WHERE WHAT IT READS IS OF BULK AT MOST 1048576: true; the input reads as it did. -/
def dequeOnceUptoRow : OpenClaim := { program := "yteohlbnmmlejnaa", sum := "4c4499bebdf23b9d86c0f94bc76cc35dc2bafd204613de8cd61d865bdcf54fbf", func := "fugue/fuguelaw12.DequeOnce", spec := "dequeOnce", inPlace := ["(*internal/sync.Mutex).Lock", "internal/race.Disable", "sync/atomic.CompareAndSwapInt32", "internal/race.Enable", "internal/race.Acquire", "(*internal/sync.Mutex).lockSlow", "internal/sync.runtime_canSpin", "internal/sync.runtime_doSpin", "internal/sync.throw", "internal/sync.runtime_nanotime", "internal/sync.runtime_SemacquireMutex", "sync/atomic.AddInt32", "(*internal/sync.Mutex).Unlock", "internal/race.ReleaseMerge", "(*internal/sync.Mutex).unlockSlow", "internal/sync.fatal", "internal/sync.runtime_Semrelease"], apart := false, narrowed := true }
def DequeOnceUptoSaid : Prop := dequeOnceUptoRow.holds Try.pinned (OpenSpec.upto dequeOnceSpec)

/-- 'fuguelaw12.DequeLong', WHERE WHAT IT READS IS OF BULK AT MOST 1048576: true; the input reads as it did. -/
def dequeLongUptoRow : OpenClaim := { program := "yteohlbnmmlejnaa", sum := "4c4499bebdf23b9d86c0f94bc76cc35dc2bafd204613de8cd61d865bdcf54fbf", func := "fugue/fuguelaw12.DequeLong", spec := "dequeLong", inPlace := ["(*internal/sync.Mutex).Lock", "internal/race.Disable", "sync/atomic.CompareAndSwapInt32", "internal/race.Enable", "internal/race.Acquire", "(*internal/sync.Mutex).lockSlow", "internal/sync.runtime_canSpin", "internal/sync.runtime_doSpin", "internal/sync.throw", "internal/sync.runtime_nanotime", "internal/sync.runtime_SemacquireMutex", "sync/atomic.AddInt32", "(*internal/sync.Mutex).Unlock", "internal/race.ReleaseMerge", "(*internal/sync.Mutex).unlockSlow", "internal/sync.fatal", "internal/sync.runtime_Semrelease"], apart := false, narrowed := true }
def DequeLongUptoSaid : Prop := dequeLongUptoRow.holds Try.pinned (OpenSpec.upto dequeLongSpec)

/-- 'fuguelaw12.DequeMoves', WHERE WHAT IT READS IS OF BULK AT MOST 1048576: true; the input reads as it did. -/
def dequeMovesUptoRow : OpenClaim := { program := "yteohlbnmmlejnaa", sum := "4c4499bebdf23b9d86c0f94bc76cc35dc2bafd204613de8cd61d865bdcf54fbf", func := "fugue/fuguelaw12.DequeMoves", spec := "dequeMoves", inPlace := ["(*internal/sync.Mutex).Lock", "internal/race.Disable", "sync/atomic.CompareAndSwapInt32", "internal/race.Enable", "internal/race.Acquire", "(*internal/sync.Mutex).lockSlow", "internal/sync.runtime_canSpin", "internal/sync.runtime_doSpin", "internal/sync.throw", "internal/sync.runtime_nanotime", "internal/sync.runtime_SemacquireMutex", "sync/atomic.AddInt32", "(*internal/sync.Mutex).Unlock", "internal/race.ReleaseMerge", "(*internal/sync.Mutex).unlockSlow", "internal/sync.fatal", "internal/sync.runtime_Semrelease"], apart := false, narrowed := true }
def DequeMovesUptoSaid : Prop := dequeMovesUptoRow.holds Try.pinned (OpenSpec.upto dequeMovesSpec)

end Rows
end Go.Proofs.Yteohlbnmmlejnaa
