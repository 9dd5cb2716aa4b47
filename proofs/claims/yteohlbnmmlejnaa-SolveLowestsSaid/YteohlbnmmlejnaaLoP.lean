/-
  What the equalities and the copies tell: plain.
-/
import Derived.Test.YteohlbnmmlejnaaLoB
import Derived.Test.YteohlbnmmlejnaaPSolveLowestsx1
namespace Go.Proofs.Yteohlbnmmlejnaa.PSolveLowests
open Go.RowKit Go.Proofs.YteohlbnmmlejnaaW.PrintWords
set_option linter.unusedVariables false
set_option linter.unusedSimpArgs false

/-- A loop over two lists of one length that asks of each pair. -/
theorem ev_loop {α : Type} [DecidableEq α] (l : Nat → Int → Option Bool) (xs ys : List α) (hl : xs.length = ys.length) (d : α)
    (hend : ∀ k, l (k + 1) (xs.length : Int) = some true)
    (q : Nat → α → α → Option Bool) (hstep : ∀ k (i : Nat), i < xs.length → l (k + 1) (i : Int) = (q k (xs.getD i d) (ys.getD i d)).bind fun t => if t = true then l k ((i + 1 : Nat) : Int) else some false)
    (hq : ∀ i, i < xs.length → Ev (fun k => q k (xs.getD i d) (ys.getD i d)) (decide (xs.getD i d = ys.getD i d))) :
    ∀ (m i : Nat), i + m = xs.length → Ev (fun k => l k (i : Int)) (decide (xs.drop i = ys.drop i))
  | 0, i, hi => by
    obtain rfl : i = xs.length := by omega
    rw [List.drop_of_length_le (Nat.le_refl _), List.drop_of_length_le (by omega)]
    exact Ev.step hend (Ev.now _)
  | m + 1, i, hi => by
    have h1 : i < xs.length := by omega
    have h2 : i < ys.length := by omega
    refine Ev.step (f := fun k => (q k (xs.getD i d) (ys.getD i d)).bind fun t => if t = true then l k ((i + 1 : Nat) : Int) else some false) (fun k => hstep k i h1) ?_
    refine Ev.bind (f := fun k t => if t = true then l k ((i + 1 : Nat) : Int) else some false) (hq i h1) ?_
    have hx : xs.getD i d = xs[i] := by simp [h1]
    have hy : ys.getD i d = ys[i] := by simp [h2]
    rw [hx, hy, List.drop_eq_getElem_cons h1, List.drop_eq_getElem_cons h2]
    by_cases he : xs[i] = ys[i]
    · have ih := ev_loop l xs ys hl d hend q hstep hq m (i + 1) (by omega)
      simp only [he, decide_true, if_true, List.cons.injEq, true_and]
      exact ih
    · simp only [he, decide_false, List.cons.injEq, false_and]
      exact Ev.now _

theorem wrap_succ (i n : Nat) (h : i < n) (hn : n ≤ 9223372036854775807) : wrap64 ((i : Int) + 1) = ((i + 1 : Nat) : Int) := by unfold wrap64; omega

theorem ev_eqInts (xs ys : List Int) (hm : xs.length ≤ 9223372036854775807) : Ev (fun k => fugueref00_EqInts.f k xs ys) (decide (xs = ys)) := by
  by_cases hl : xs.length = ys.length
  · have h := ev_loop (fun k i => fugueref00_EqInts.l0 k xs ys i) xs ys hl 0 (fun k => by simp only [fugueref00_EqInts.l0]; rw [if_neg (by omega)])
      (fun _ x y => some (decide (x = y))) (fun k i hi => by
        simp only [fugueref00_EqInts.l0]
        rw [if_pos (by omega), if_pos (by omega), if_pos (by omega), wrap_succ i _ hi hm]
        simp only [Option.bind_some, decide_eq_true_eq]
        rfl) (fun i _ => Ev.now _) xs.length 0 (by omega)
    refine Ev.congr (fun k => ?_) (by simpa using h)
    unfold fugueref00_EqInts.f
    rw [if_pos (by omega)]
  · refine Ev.congr (f := fun _ => some false) (fun k => ?_) (by rw [show decide (xs = ys) = false by simp; exact fun h => hl (by rw [h])]; exact Ev.now _)
    unfold fugueref00_EqInts.f
    rw [if_neg (by omega)]

theorem ev_eqLists (xs ys : List (List Int)) (hm : xs.length ≤ 9223372036854775807) (hx : ∀ x ∈ xs, x.length ≤ 9223372036854775807) : Ev (fun k => fugueref00_EqLists.f k xs ys) (decide (xs = ys)) := by
  by_cases hl : xs.length = ys.length
  · have h := ev_loop (fun k i => fugueref00_EqLists.l0 k xs ys i) xs ys hl [] (fun k => by simp only [fugueref00_EqLists.l0]; rw [if_neg (by omega)])
      (fun k x y => fugueref00_EqInts.f k x y) (fun k i hi => by
        simp only [fugueref00_EqLists.l0]
        rw [if_pos (by omega), if_pos (by omega), if_pos (by omega), wrap_succ i _ hi hm]
        rfl) (fun i hi => ev_eqInts _ _ (hx _ (by rw [show xs.getD i [] = xs[i] by simp [hi]]; exact List.getElem_mem _))) xs.length 0 (by omega)
    refine Ev.congr (fun k => ?_) (by simpa using h)
    unfold fugueref00_EqLists.f
    rw [if_pos (by omega)]
  · refine Ev.congr (f := fun _ => some false) (fun k => ?_) (by rw [show decide (xs = ys) = false by simp; exact fun h => hl (by rw [h])]; exact Ev.now _)
    unfold fugueref00_EqLists.f
    rw [if_neg (by omega)]

theorem ev_eqSummary (h0 : List Int) (r0 : List (List Int)) (h1 : List Int) (r1 : List (List Int)) (a : h0.length ≤ 9223372036854775807) (b : r0.length ≤ 9223372036854775807) (c : ∀ x ∈ r0, x.length ≤ 9223372036854775807) :
    Ev (fun k => fugueref00_EqSummary.f k h0 r0 h1 r1) (decide (h0 = h1 ∧ r0 = r1)) := by
  unfold fugueref00_EqSummary.f
  refine Ev.bind (f := fun k t => if t = true then ((fugueref00_EqLists.f k r0 r1).bind fun t209 => (some t209)) else (some false)) (ev_eqInts h0 h1 a) ?_
  by_cases he : h0 = h1
  · simp only [he, decide_true, if_true, true_and]
    exact Ev.bind (f := fun _ t => some t) (ev_eqLists r0 r1 b c) (Ev.now _)
  · simp only [he, decide_false, false_and]
    exact Ev.now _
end Go.Proofs.Yteohlbnmmlejnaa.PSolveLowests
