/-
  What the copies and the comparison of functions tell: plain.
-/
import Derived.Test.YteohlbnmmlejnaaLoP
namespace Go.Proofs.Yteohlbnmmlejnaa.PSolveLowests
open Go.RowKit Go.Proofs.YteohlbnmmlejnaaW.PrintWords
set_option linter.unusedVariables false
set_option linter.unusedSimpArgs false

/-- A loop that copies element by element. -/
theorem ev_copy {α β : Type} (l : Nat → List α → Int → Option (List α)) (xs : List α) (d : α) (hend : ∀ k acc, l (k + 1) acc (xs.length : Int) = some acc)
    (q : Nat → α → Option β) (g : β → α) (hstep : ∀ k (i : Nat) acc, i < xs.length → acc.length = i → l (k + 1) acc (i : Int) = (q k (xs.getD i d)).bind fun y => l k (acc ++ [g y]) ((i + 1 : Nat) : Int))
    (hq : ∀ i, i < xs.length → ∃ y, Ev (fun k => q k (xs.getD i d)) y ∧ g y = xs.getD i d) :
    ∀ (m i : Nat), i + m = xs.length → Ev (fun k => l k (xs.take i) (i : Int)) xs
  | 0, i, hi => by
    obtain rfl : i = xs.length := by omega
    rw [List.take_length]
    exact Ev.step (fun k => hend k xs) (Ev.now _)
  | m + 1, i, hi => by
    have h1 : i < xs.length := by omega
    obtain ⟨y, hy, hg⟩ := hq i h1
    refine Ev.step (f := fun k => (q k (xs.getD i d)).bind fun y => l k (xs.take i ++ [g y]) ((i + 1 : Nat) : Int)) (fun k => hstep k i _ h1 (by simp; omega)) ?_
    refine Ev.bind (f := fun k y => l k (xs.take i ++ [g y]) ((i + 1 : Nat) : Int)) hy ?_
    have hx : xs.getD i d = xs[i] := by simp [h1]
    rw [hg, hx, show xs.take i ++ [xs[i]] = xs.take (i + 1) by rw [List.take_add_one, List.getElem?_eq_getElem h1]; rfl]
    exact ev_copy l xs d hend q g hstep hq m (i + 1) (by omega)

theorem ev_copyInts (xs : List Int) (hm : xs.length ≤ 2147483647) : Ev (fun k => fugueref00_CopyInts.f k xs) xs := by
  have h := ev_copy (fun k acc i => fugueref00_CopyInts.l0 k xs acc i) xs 0 (fun k acc => by simp only [fugueref00_CopyInts.l0]; rw [if_neg (by omega)]) (fun _ x => some x) id
    (fun k i acc hi ha => by
      simp only [fugueref00_CopyInts.l0]
      rw [if_pos (by omega), if_pos (by omega), if_pos (by omega), wrap_succ i _ hi (by omega)]
      rfl) (fun i _ => ⟨_, Ev.now _, rfl⟩) xs.length 0 (by omega)
  exact h

/-- An instruction's lists are within the bound. -/
def SmallI (x : S29) : Prop := x.f5.length ≤ 2147483647 ∧ x.f6.length ≤ 2147483647
theorem ev_copyInstr (x : S29) (h : SmallI x) : Ev (fun k => fugueref00_CopyInstr.f k x.f0 x.f1 x.f2 x.f3 x.f4 x.f5 x.f6) (x.f0, x.f1, x.f2, x.f3, x.f4, x.f5, x.f6) := by
  unfold fugueref00_CopyInstr.f
  refine Ev.bind (f := fun k t117 => ((fugueref00_CopyInts.f k x.f6).bind fun t120 => (some (x.f0, x.f1, x.f2, x.f3, x.f4, t117, t120)))) (ev_copyInts x.f5 h.1) ?_
  exact Ev.bind (f := fun _ t120 => (some (x.f0, x.f1, x.f2, x.f3, x.f4, x.f5, t120))) (ev_copyInts x.f6 h.2) (Ev.now _)
theorem rd29 (xs : List S29) (i : Nat) : rd_T29 xs (i : Int) = xs.getD i z29 := rfl
theorem rd32 (xs : List S32) (i : Nat) : rd_T32 xs (i : Int) = xs.getD i z32 := rfl
theorem getD_mem {α : Type} (xs : List α) (i : Nat) (d : α) (h : i < xs.length) : xs.getD i d ∈ xs := by
  rw [show xs.getD i d = xs[i] by simp [h]]
  exact List.getElem_mem _

theorem ev_copyCode (xs : List S29) (hm : xs.length ≤ 2147483647) (hs : ∀ x ∈ xs, SmallI x) : Ev (fun k => fugueref00_CopyCode.f k xs) xs := by
  have h := ev_copy (fun k acc i => fugueref00_CopyCode.l0 k xs acc i) xs z29 (fun k acc => by simp only [fugueref00_CopyCode.l0]; rw [if_neg (by omega)])
    (fun k x => fugueref00_CopyInstr.f k x.f0 x.f1 x.f2 x.f3 x.f4 x.f5 x.f6) (fun bt124 => (⟨bt124.1, bt124.2.1, bt124.2.2.1, bt124.2.2.2.1, bt124.2.2.2.2.1, bt124.2.2.2.2.2.1, bt124.2.2.2.2.2.2⟩ : S29))
    (fun k i acc hi ha => by
      simp only [fugueref00_CopyCode.l0]
      rw [if_pos (by omega), if_pos (by omega), wrap_succ i _ hi (by omega), rd29]
      congr 1
      funext y
      rw [if_pos (by omega)]) (fun i hi => ⟨_, ev_copyInstr _ (hs _ (getD_mem _ _ _ hi)), rfl⟩) xs.length 0 (by omega)
  exact h
/-- A function's lists are within the bound. -/
def SmallF (f : S32) : Prop := f.f3.length ≤ 2147483647 ∧ ∀ x ∈ f.f3, SmallI x
theorem ev_copyFunc (x : S32) (h : SmallF x) : Ev (fun k => fugueref00_CopyFunc.f k x.f0 x.f1 x.f2 x.f3) (x.f0, x.f1, x.f2, x.f3) := by
  unfold fugueref00_CopyFunc.f
  exact Ev.bind (f := fun _ t141 => (some (x.f0, x.f1, x.f2, t141))) (ev_copyCode x.f3 h.1 h.2) (Ev.now _)
theorem ev_copyFuncs (xs : List S32) (hm : xs.length ≤ 2147483647) (hs : ∀ x ∈ xs, SmallF x) : Ev (fun k => fugueref00_CopyFuncs.f k xs) xs := by
  have h := ev_copy (fun k acc i => fugueref00_CopyFuncs.l0 k xs acc i) xs z32 (fun k acc => by simp only [fugueref00_CopyFuncs.l0]; rw [if_neg (by omega)])
    (fun k x => fugueref00_CopyFunc.f k x.f0 x.f1 x.f2 x.f3) (fun bt => (⟨bt.1, bt.2.1, bt.2.2.1, bt.2.2.2⟩ : S32))
    (fun k i acc hi ha => by
      simp only [fugueref00_CopyFuncs.l0]
      rw [if_pos (by omega), if_pos (by omega), wrap_succ i _ hi (by omega), rd32]
      congr 1
      funext y
      rw [if_pos (by omega)]) (fun i hi => ⟨_, ev_copyFunc _ (hs _ (getD_mem _ _ _ hi)), rfl⟩) xs.length 0 (by omega)
  exact h

/-- The same code is the same. -/
theorem ev_same (l : Nat → Int → Option Bool) (n : Nat) (hend : ∀ k, l (k + 1) (n : Int) = some true) (hstep : ∀ i : Nat, i < n → ∃ q : Nat → Option Bool, Ev q true ∧ ∀ k, l (k + 1) (i : Int) = (q k).bind fun t => if t = true then l k ((i + 1 : Nat) : Int) else some false) :
    ∀ (m i : Nat), i + m = n → Ev (fun k => l k (i : Int)) true
  | 0, i, hi => by
    obtain rfl : i = n := by omega
    exact Ev.step hend (Ev.now _)
  | m + 1, i, hi => by
    obtain ⟨q, hq, hs⟩ := hstep i (by omega)
    refine Ev.step hs (Ev.bind (f := fun k t => if t = true then l k ((i + 1 : Nat) : Int) else some false) hq ?_)
    simp only [if_true]
    exact ev_same l n hend hstep m (i + 1) (by omega)
theorem ev_eqInstr (x : S29) (h : SmallI x) : Ev (fun k => fugueref00_EqInstr.f k x.f0 x.f1 x.f2 x.f3 x.f4 x.f5 x.f6 x.f0 x.f1 x.f2 x.f3 x.f4 x.f5 x.f6) true := by
  unfold fugueref00_EqInstr.f
  simp only [if_true]
  have h5 := ev_eqInts x.f5 x.f5 (by have := h.1; omega)
  have h6 := ev_eqInts x.f6 x.f6 (by have := h.2; omega)
  simp only [decide_true] at h5 h6
  refine Ev.bind (f := fun k t224 => (if t224 = true then ((fugueref00_EqInts.f k x.f6 x.f6).bind fun t225 => (some t225)) else (some false))) h5 ?_
  simp only [if_true]
  exact Ev.bind (f := fun _ t => some t) h6 (Ev.now _)
theorem ev_eqCode (xs : List S29) (hm : xs.length ≤ 2147483647) (hs : ∀ x ∈ xs, SmallI x) : Ev (fun k => fugueref00_EqCode.f k xs xs) true := by
  have h := ev_same (fun k i => fugueref00_EqCode.l0 k xs xs i) xs.length (fun k => by simp only [fugueref00_EqCode.l0]; rw [if_neg (by omega)])
    (fun i hi => ⟨fun k => fugueref00_EqInstr.f k (xs.getD i z29).f0 (xs.getD i z29).f1 (xs.getD i z29).f2 (xs.getD i z29).f3 (xs.getD i z29).f4 (xs.getD i z29).f5 (xs.getD i z29).f6 (xs.getD i z29).f0 (xs.getD i z29).f1 (xs.getD i z29).f2 (xs.getD i z29).f3 (xs.getD i z29).f4 (xs.getD i z29).f5 (xs.getD i z29).f6,
      ev_eqInstr _ (hs _ (getD_mem _ _ _ hi)), fun k => by
        simp only [fugueref00_EqCode.l0]
        rw [if_pos (by omega), if_pos (by omega), if_pos (by omega), wrap_succ i _ hi (by omega), rd29]⟩) xs.length 0 (by omega)
  refine Ev.congr (fun k => ?_) h
  unfold fugueref00_EqCode.f
  rw [if_pos rfl]
  rfl
theorem ev_eqFunc (x : S32) (h : SmallF x) : Ev (fun k => fugueref00_EqFunc.f k x.f0 x.f1 x.f2 x.f3 x.f0 x.f1 x.f2 x.f3) true := by
  unfold fugueref00_EqFunc.f
  simp only [if_true]
  exact Ev.bind (f := fun _ t => some t) (ev_eqCode x.f3 h.1 h.2) (Ev.now _)

/-- What an argument's reach leaves. -/
def ReachI (x : S29) : Prop := x.f5.length ≤ 17592186044416 ∧ x.f6.length ≤ 17592186044416
def ReachF (f : S32) : Prop := f.f3.length ≤ 17592186044416 ∧ ∀ x ∈ f.f3, ReachI x

theorem long_code (g : Int) (fs : List S32) (i : Nat) (hi : i < fs.length) (hr : ReachF (fs.getD i z32)) (P : Prop)
    (hA : ∀ n : Int, 0 ≤ n → n ≤ 70368744177664 → ∃ r, Ev (fun k => fuguelaw08_long.l0 k n ((i + 1 : Nat) : Int) g fs) r ∧ (r = false → n ≤ 2147483647 ∧ P)) (hm : fs.length ≤ 9223372036854775807) :
    ∀ (m j : Nat), j + m = (fs.getD i z32).f3.length → ∀ n : Int, 0 ≤ n → n ≤ 70368744177664 →
      ∃ r, Ev (fun k => fuguelaw08_long.l1 k n (i : Int) (j : Int) g fs) r ∧ (r = false → n ≤ 2147483647 ∧ (∀ q, j ≤ q → q < (fs.getD i z32).f3.length → SmallI ((fs.getD i z32).f3.getD q z29)) ∧ P)
  | 0, j, hj, n, h0, h1 => by
    obtain ⟨r, hr1, hr2⟩ := hA n h0 h1
    refine ⟨r, Ev.step (fun k => ?_) hr1, fun he => ⟨(hr2 he).1, fun q h2 h3 => by omega, (hr2 he).2⟩⟩
    simp only [fuguelaw08_long.l1]
    rw [if_pos (by omega), if_pos (by omega), rd32, if_neg (by omega), wrap_succ i _ hi hm]
  | m + 1, j, hj, n, h0, h1 => by
    have hjl : j < (fs.getD i z32).f3.length := by omega
    by_cases hL : n > 2147483647
    · obtain ⟨r, hr1, hr2⟩ := hA n h0 h1
      refine ⟨r, Ev.step (fun k => ?_) hr1, fun he => absurd (hr2 he).1 (by omega)⟩
      simp only [fuguelaw08_long.l1]
      rw [if_pos (by omega), if_pos (by omega), rd32, if_pos (by omega), wrap_succ i _ hi hm]
      simp only [fugueref00_Long.f, hL, decide_true, Option.bind_some, if_true]
    · have hx := hr.2 _ (getD_mem _ j z29 hjl)
      have hc := hr.1
      obtain ⟨r, hr1, hr2⟩ := long_code g fs i hi hr P hA hm m (j + 1) (by omega) (n + ((fs.getD i z32).f3.getD j z29).f5.length + ((fs.getD i z32).f3.getD j z29).f6.length) (by omega) (by have := hx.1; have := hx.2; omega)
      refine ⟨r, Ev.step (fun k => ?_) hr1, fun he => ?_⟩
      · simp only [fuguelaw08_long.l1]
        rw [if_pos (by omega), if_pos (by omega), rd32, if_pos (by omega), wrap_succ j _ hjl (by omega), rd29]
        simp only [fugueref00_Long.f, hL, decide_false, Option.bind_some, Bool.false_eq_true, if_false]
        rw [if_pos (by omega)]
        congr 1
        have := hx.1
        have := hx.2
        unfold wrap64
        omega
      · obtain ⟨h2, h3, h4⟩ := hr2 he
        refine ⟨by omega, fun q hq hq2 => ?_, h4⟩
        by_cases hqj : q = j
        · subst hqj; exact ⟨by omega, by omega⟩
        · exact h3 q (by omega) hq2

theorem long_funcs (g : Int) (fs : List S32) (hr : ∀ f ∈ fs, ReachF f) (hm : fs.length ≤ 9223372036854775807) :
    ∀ (m i : Nat), i + m = fs.length → ∀ n : Int, 0 ≤ n → n ≤ 70368744177664 →
      ∃ r, Ev (fun k => fuguelaw08_long.l0 k n (i : Int) g fs) r ∧ (r = false → n ≤ 2147483647 ∧ ∀ q, i ≤ q → q < fs.length → SmallF (fs.getD q z32))
  | 0, i, hi, n, h0, h1 => by
    refine ⟨decide (n > 2147483647), Ev.step (f := fun k => fuguelaw08_long.j1 k n (i : Int) false g fs) (fun k => by simp only [fuguelaw08_long.l0]; rw [if_neg (by omega)]) (Ev.step (f := fun _ => some (decide (n > 2147483647))) (fun k => ?_) (Ev.now _)), fun he => ⟨by simpa using he, fun q _ _ => by omega⟩⟩
    simp [fuguelaw08_long.j1, fugueref00_Long.f]
  | m + 1, i, hi, n, h0, h1 => by
    have hil : i < fs.length := by omega
    by_cases hL : n > 2147483647
    · refine ⟨true, Ev.step (f := fun k => fuguelaw08_long.j1 k n (i : Int) false g fs) (fun k => ?_) (Ev.step (f := fun _ => some true) (fun k => ?_) (Ev.now _)), fun he => by cases he⟩
      · simp only [fuguelaw08_long.l0]
        rw [if_pos (by omega)]
        simp [fugueref00_Long.f, hL]
      · simp [fuguelaw08_long.j1, fugueref00_Long.f, hL]
    · have hf := hr _ (getD_mem _ i z32 hil)
      obtain ⟨r, hr1, hr2⟩ := long_code g fs i hil hf (∀ q, i + 1 ≤ q → q < fs.length → SmallF (fs.getD q z32)) (fun n h0 h1 => long_funcs g fs hr hm m (i + 1) (by omega) n h0 h1) hm (fs.getD i z32).f3.length 0 (by omega)
        (n + (fs.getD i z32).f3.length) (by omega) (by have := hf.1; omega)
      refine ⟨r, Ev.step (f := fun k => fuguelaw08_long.j1 k n (i : Int) true g fs) (fun k => ?_) (Ev.step (fun k => ?_) hr1), fun he => ?_⟩
      · simp only [fuguelaw08_long.l0]
        rw [if_pos (by omega)]
        simp [fugueref00_Long.f, hL]
      · simp only [fuguelaw08_long.j1, if_true]
        rw [if_pos (by omega), if_pos (by omega), rd32]
        congr 1
        have := hf.1
        unfold wrap64
        omega
      · obtain ⟨h2, h3, h4⟩ := hr2 he
        refine ⟨by omega, fun q hq hq2 => ?_⟩
        by_cases hqj : q = i
        · subst hqj
          refine ⟨by omega, fun x hx => ?_⟩
          obtain ⟨p, hp, rfl⟩ := List.getElem_of_mem hx
          have := h3 p (by omega) hp
          rwa [show (fs.getD q z32).f3.getD p z29 = (fs.getD q z32).f3[p] by rw [List.getD_eq_getElem?_getD, List.getElem?_eq_getElem hp, Option.getD_some]] at this
        · exact h4 q (by omega) hq2

/-- 'long' tells something; where it tells false the lists are within the bound. -/
theorem long_tells (g : Int) (fs : List S32) (hl : fs.length ≤ 17592186044416) (hr : ∀ f ∈ fs, ReachF f) :
    ∃ k r, fuguelaw08_long.f k g fs = some r ∧ (r = false → fs.length ≤ 2147483647 ∧ ∀ f ∈ fs, SmallF f) := by
  obtain ⟨r, h1, h2⟩ := long_funcs g fs hr (by omega) fs.length 0 (by omega) fs.length (by omega) (by omega)
  obtain ⟨k, hk⟩ := h1.rounds
  refine ⟨k, r, hk, fun he => ⟨by have := (h2 he).1; omega, fun f hf => ?_⟩⟩
  obtain ⟨p, hp, rfl⟩ := List.getElem_of_mem hf
  have := (h2 he).2 p (by omega) hp
  rwa [show fs.getD p z32 = fs[p] by simp [hp]] at this
end Go.Proofs.Yteohlbnmmlejnaa.PSolveLowests
