/-
  Both Lowests tell the same: plain.
-/
import Derived.Test.YteohlbnmmlejnaaLoD
import Derived.Test.YteohlbnmmlejnaaLoP
namespace Go.Proofs.Yteohlbnmmlejnaa.PSolveLowests
open Go.RowKit Go.Proofs.YteohlbnmmlejnaaW.PrintWords
set_option linter.unusedVariables false
set_option linter.unusedSimpArgs false

/-- What a summary's start is. -/
def low (p q : Int) : List Int × List (List Int) := if p < 0 ∨ p > 8 ∨ q < 0 ∨ q > 4 then ([], []) else (List.replicate p.toNat 9, List.replicate p.toNat (List.replicate q.toNat 9))

theorem low_small (p q : Int) : (low p q).1.length ≤ 8 ∧ (low p q).2.length ≤ 8 ∧ ∀ x ∈ (low p q).2, x.length ≤ 4 := by
  unfold low
  split
  · simp
  · refine ⟨by simp; omega, by simp; omega, fun x hx => ?_⟩
    have := (List.mem_replicate.1 hx).2
    rw [this]
    simp
    omega

set_option maxRecDepth 100000 in
theorem lows_in (p q v : Int) (l : List S29) (hp : 0 ≤ p ∧ p ≤ 8) (hq : 0 ≤ q ∧ q ≤ 4) :
    solve_Lowest.f 40 p q v l = some (low p q) ∧ fugueref08_Lowest.f 80 p q v l = some (low p q) := by
  have h1 : p = 0 ∨ p = 1 ∨ p = 2 ∨ p = 3 ∨ p = 4 ∨ p = 5 ∨ p = 6 ∨ p = 7 ∨ p = 8 := by omega
  have h2 : q = 0 ∨ q = 1 ∨ q = 2 ∨ q = 3 ∨ q = 4 := by omega
  rcases h1 with rfl | rfl | rfl | rfl | rfl | rfl | rfl | rfl | rfl <;> rcases h2 with rfl | rfl | rfl | rfl | rfl <;> exact ⟨by kernel_rfl, by kernel_rfl⟩

theorem lows (p q v : Int) (l : List S29) : solve_Lowest.f 40 p q v l = some ((low p q).1, (low p q).2) ∧ fugueref08_Lowest.f 80 p q v l = some ((low p q).1, (low p q).2) := by
  by_cases h : p < 0 ∨ p > 8 ∨ q < 0 ∨ q > 4
  · have hl : low p q = ([], []) := by unfold low; rw [if_pos h]
    rw [hl]
    unfold solve_Lowest.f fugueref08_Lowest.f
    by_cases h1 : p < 0
    · rw [if_pos h1, if_pos h1]
      exact ⟨rfl, rfl⟩
    · rw [if_neg h1, if_neg h1]
      by_cases h2 : p > 8
      · rw [if_pos h2, if_pos h2]
        exact ⟨rfl, rfl⟩
      · rw [if_neg h2, if_neg h2]
        by_cases h3 : q < 0
        · rw [if_pos h3, if_pos h3]
          exact ⟨rfl, rfl⟩
        · rw [if_neg h3, if_neg h3]
          rw [decide_eq_true (show q > 4 by omega)]
          exact ⟨rfl, rfl⟩
  · exact lows_in p q v l (by omega) (by omega)
end Go.Proofs.Yteohlbnmmlejnaa.PSolveLowests
