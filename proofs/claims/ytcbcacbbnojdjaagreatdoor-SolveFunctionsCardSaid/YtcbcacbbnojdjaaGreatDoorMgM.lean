/-
 Part M of what the law's proof needs: walks of the program's functions and the plain laws of what they tell. No condition.
-/
import Derived.Test.YtcbcacbbnojdjaaGreatDoorMgK
import Derived.Test.YtcbcacbbnojdjaaGreatDoorMgG
import Derived.Test.YtcbcacbbnojdjaaGreatDoorMgJ
import Derived.Test.YtcbcacbbnojdjaaGreatDoorMgL
import Derived.Maps.Own
import Derived.Deep.AppendLies
import Derived.Deep.QuietTactic
import Derived.BigQuiet
import Derived.StillTailTactics
namespace Go.Proofs.YtcbcacbbnojdjaaGreatDoor
open Go.RowKit Go.Proofs.YtcbcacbbnojdjaaGreatDoorW.PrintWords Go.Proofs.YtcbcacbbnojdjaaGreatDoor.PSolveFunctions
set_option linter.unusedVariables false
set_option linter.unusedSimpArgs false
def callsTo (c : List Ins) : Nat → List Int
 | 0 => []
 | k + 1 => if (c.getD k zI).f0 = 11 then addQ (callsTo c k) (c.getD k zI).f4 else callsTo c k
def newsTo (c : List Ins) : Nat → Nat
 | 0 => 0
 | k + 1 => if (c.getD k zI).f0 = 6 then newsTo c k + 1 else newsTo c k
abbrev jumpI : Ins := ⟨13, 0, 0, 0, 0, [], []⟩
abbrev headF (f : Fun) : Fun := ⟨f.f0, f.f1, f.f2, [jumpI]⟩
def numb (M : List Int) (x : Ins) : Ins := if x.f0 = 11 then ⟨x.f0, x.f1, x.f2, x.f3, (M.idxOf x.f4 : Int) + 1, x.f5, x.f6⟩ else x
abbrev callees (f : Fun) : List Int := callsTo f.f3 f.f3.length
abbrev ownF (f : Fun) : Fun := ⟨f.f0, f.f1, f.f2, f.f3.map (numb (callees f))⟩
def small (fs : List Fun) (f : Fun) : List Fun := ownF f :: (callees f).map (fun g => headF (fs.getD g.toNat zF))
theorem calls_news (c : List Ins) : ∀ k, (callsTo c k).length + newsTo c k ≤ k
 | 0 => Nat.le_refl 0
 | k + 1 => by
  have ih := calls_news c k
  unfold callsTo newsTo
  by_cases h1 : (c.getD k zI).f0 = 11
  ·rw [if_pos h1, if_neg (by omega)]
   unfold addQ
   split <;> simp <;> omega
  ·rw [if_neg h1]
   split <;> omega
theorem newsTo_mono (c : List Ins) {k : Nat} : ∀ {n}, k ≤ n → newsTo c k ≤ newsTo c n
 | 0, h => by
  obtain rfl : k = 0 := by omega
  exact Nat.le_refl _
 | n + 1, h => by
  by_cases hk : k = n + 1
  ·subst hk; exact Nat.le_refl _
  ·have := newsTo_mono c (k := k) (n := n) (by omega)
   have h2 : newsTo c (n + 1) = if (c.getD n zI).f0 = 6 then newsTo c n + 1 else newsTo c n := rfl
   rw [h2]
   split <;> omega
theorem mem_callsTo {c : List Ins} {g : Int} : ∀ k, g ∈ callsTo c k ↔ ∃ j, j < k ∧ (c.getD j zI).f0 = 11 ∧ (c.getD j zI).f4 = g
 | 0 => by simp [callsTo]
 | k + 1 => by
  have ih := mem_callsTo (c := c) (g := g) k
  unfold callsTo
  by_cases h1 : (c.getD k zI).f0 = 11
  ·rw [if_pos h1, mem_addQ, ih]
   constructor
   ·rintro (⟨j, hj, h⟩ | rfl)
    ·exact ⟨j, by omega, h⟩
    ·exact ⟨k, by omega, h1, rfl⟩
   ·rintro ⟨j, hj, h⟩
    by_cases hjk : j = k
    ·subst hjk; exact .inr h.2.symm
    ·exact .inl ⟨j, by omega, h⟩
  ·rw [if_neg h1, ih]
   constructor
   ·rintro ⟨j, hj, h⟩; exact ⟨j, by omega, h⟩
   ·rintro ⟨j, hj, h⟩
    by_cases hjk : j = k
    ·subst hjk; exact absurd h.1 h1
    ·exact ⟨j, by omega, h⟩
theorem numb_f0 (M : List Int) (x : Ins) : (numb M x).f0 = x.f0 := by unfold numb; split <;> rfl
theorem numb_getD (M : List Int) (c : List Ins) (k : Nat) : (c.map (numb M)).getD k zI = numb M (c.getD k zI) := by
 rw [List.getD_eq_getElem?_getD, List.getD_eq_getElem?_getD, List.getElem?_map]
 cases c[k]? with
 | none => rfl
 | some x => rfl
theorem runTo_all {σ : Type} {step : σ → Nat → Except Int σ} (P : σ → Nat → Prop) {s : σ} (h0 : P s 0) (n : Nat) (h : ∀ s k, k < n → P s k → ∃ s', step s k = .ok s' ∧ P s' (k + 1)) : ∀ k, k ≤ n → ∃ r, runTo step s k = .ok r ∧ P r k
 | 0, _ => ⟨s, rfl, h0⟩
 | k + 1, hk => by
  obtain ⟨r, hr, hp⟩ := runTo_all P h0 n h k (by omega)
  obtain ⟨r', hr', hp'⟩ := h r k (by omega) hp
  exact ⟨r', (runTo_succ hr).trans hr', hp'⟩
structure HeadOk (f : Fun) : Prop where
 p0 : 0 ≤ f.f0
 p1 : f.f0 ≤ (if f.f2 < 8 then f.f2 else 8)
 r0 : 0 ≤ f.f1
 r1 : f.f1 ≤ 4
 v1 : f.f2 ≤ 255
 n0 : 1 ≤ (f.f3.length : Int)
 n1 : (f.f3.length : Int) ≤ 4096
theorem head_of {l l' : Int} {f : Fun} (h : headQ l f f.f3.length = .ok l') : HeadOk f := by
 by_cases h1 : 0 ≤ f.f0 ∧ f.f0 ≤ (if f.f2 < 8 then f.f2 else 8) ∧ 0 ≤ f.f1 ∧ f.f1 ≤ 4 ∧ f.f2 ≤ 255 ∧ (f.f3.length : Int) ≤ 4096
 ·rw [headQ, if_pos h1] at h
  by_cases h2 : 1 ≤ (f.f3.length : Int)
  ·exact ⟨h1.1, h1.2.1, h1.2.2.1, h1.2.2.2.1, h1.2.2.2.2.1, h2, h1.2.2.2.2.2⟩
  ·rw [if_neg h2] at h; cases h
 ·rw [headQ, if_neg h1] at h; cases h
theorem HeadOk.asked {f : Fun} (h : HeadOk f) {l : Int} (hl : l + f.f2 < 1048576) : headQ l f f.f3.length = .ok (l + f.f2) := by
 rw [headQ, if_pos ⟨h.p0, h.p1, h.r0, h.r1, h.v1, h.n1⟩, if_pos h.n0, if_pos hl]
structure InsGood (G : Int) (fs : List Fun) (f : Fun) (x : Ins) (last : Bool) : Prop where
 o0 : 1 ≤ x.f0 ∧ x.f0 < 18
 pl : plainB (table.getD x.f0.toNat []) x = true
 la : last = false ∨ x.f0 = 13 ∨ x.f0 = 15
 ps : ∀ j, j < (table.getD x.f0.toNat []).length → askQ G fs f x f.f3.length ((table.getD x.f0.toNat []).getD j .i) = .ok ()
theorem ins_of {G : Int} {fs : List Fun} {f : Fun} {x : Ins} {last : Bool} {l l' : Int} (h : insQ G fs f l x last = .ok l') : InsGood G fs f x last := by
 unfold insQ at h
 cases hq : opQ l x last with
 | error e => rw [hq] at h; cases h
 | ok m =>
  rw [hq] at h
  dsimp only at h
  cases hp : partsQ G fs f x f.f3.length with
  | error e => rw [hp] at h; cases h
  | ok u =>
   have ha : (1 ≤ x.f0 ∧ x.f0 < 18) ∧ plainB (table.getD x.f0.toNat []) x = true ∧ (last = false ∨ x.f0 = 13 ∨ x.f0 = 15) := by
    by_cases h1 : 1 ≤ x.f0 ∧ x.f0 < 18
    ·by_cases h2 : plainB (table.getD x.f0.toNat []) x = true
     ·by_cases h3 : last = false ∨ x.f0 = 13 ∨ x.f0 = 15
      ·exact ⟨h1, h2, h3⟩
      ·rw [opQ, if_pos h1, if_pos h2, if_neg h3] at hq; cases hq
     ·rw [opQ, if_pos h1, if_neg h2] at hq; cases hq
    ·rw [opQ, if_neg h1] at hq; cases hq
   refine ⟨ha.1, ha.2.1, ha.2.2, fun j hj => ?_⟩
   obtain ⟨_, _, _, h2⟩ := runTo_before hp j hj
   exact h2
theorem InsGood.asked {G : Int} {fs : List Fun} {f : Fun} {x : Ins} {last : Bool} (h : InsGood G fs f x last) {l : Int} (hl : x.f0 = 6 → l + 1 < 1048576) : insQ G fs f l x last = .ok (if x.f0 = 6 then l + 1 else l) := by
 have hp : partsQ G fs f x f.f3.length = .ok () := by
  obtain ⟨r, hr, _⟩ := runTo_all (step := fun _ j => askQ G fs f x f.f3.length ((table.getD x.f0.toNat []).getD j .i)) (fun _ _ => True) (s := ()) trivial (table.getD x.f0.toNat []).length (fun _ k hk _ => ⟨(), h.ps k hk, trivial⟩) _ (Nat.le_refl _)
  exact hr
 have ho : opQ l x last = .ok (if x.f0 = 6 then l + 1 else l) := by
  rw [opQ, if_pos h.o0, if_pos h.pl, if_pos h.la]
  by_cases h6 : x.f0 = 6
  ·rw [if_pos h6, if_pos h6, if_pos (hl h6)]
  ·rw [if_neg h6, if_neg h6]
 unfold insQ
 rw [ho]
 dsimp only
 rw [hp]
structure AllOk (G : Int) (fs : List Fun) : Prop where
 G0 : 0 ≤ G ∧ G ≤ 16
 F0 : 1 ≤ (fs.length : Int) ∧ (fs.length : Int) ≤ 65535
 hd : ∀ i, i < fs.length → HeadOk (fs.getD i zF)
 ins : ∀ i, i < fs.length → ∀ k, k < (fs.getD i zF).f3.length → InsGood G fs (fs.getD i zF) ((fs.getD i zF).f3.getD k zI) (decide (k + 1 = (fs.getD i zF).f3.length))
theorem chk_of {G : Int} {fs : List Fun} (h : chk G fs = 0) : AllOk G fs := by
 have hG : 0 ≤ G ∧ G ≤ 16 := Classical.byContradiction fun hn => by rw [chk_G hn] at h; cases h
 have hF : 1 ≤ (fs.length : Int) ∧ (fs.length : Int) ≤ 65535 := Classical.byContradiction fun hn => by rw [chk_F hG hn] at h; cases h
 rw [chk, chkQ, if_pos hG, if_pos hF] at h
 cases hh : headsQ fs with
 | error e =>
  rw [hh] at h
  exact absurd h (runTo_err_at (· ≠ 0) (fun _ _ _ h => headQ_err_ne h) _ hh)
 | ok l =>
  rw [hh] at h
  dsimp only at h
  cases hc : codesQ G fs l with
  | error e =>
   rw [hc] at h
   exact absurd h (runTo_err_at (· ≠ 0) (fun _ _ _ h => runTo_err_at (· ≠ 0) (fun _ _ _ h => by rw [instrQ_is] at h; exact insQ_err_ne h) _ h) _ hc)
  | ok l' =>
   refine ⟨hG, hF, fun i hi => ?_, fun i hi k hk => ?_⟩
   ·obtain ⟨_, _, _, h2⟩ := runTo_before hh i hi
    exact head_of h2
   ·obtain ⟨_, _, _, h2⟩ := runTo_before hc i hi
    obtain ⟨_, _, _, h3⟩ := runTo_before h2 k hk
    exact ins_of ((instrQ_is _ _ _ _ _).symm.trans h3)
theorem plain_call (a b c d e f : Bool) (h : (bits .andNot .i64 (usedTo [a, b, c, d, e, f] 6) (maskTo [.F, .A, .B] 3) == 0) = true) : (bits .andNot .i64 (usedTo [a, b, c, true, e, f] 6) (maskTo [.F, .A, .B] 3) == 0) = true := by
 revert a b c d e f
 decide
theorem table_nocall : ∀ k, k < 18 → k ≠ 11 → ∀ p ∈ table.getD k [], p ≠ .F ∧ p ≠ .A ∧ p ≠ .B := by decide
theorem getD_mem_part (l : List Part) (j : Nat) (hj : j < l.length) : l.getD j .i ∈ l := by
 rw [List.getD_eq_getElem?_getD, List.getElem?_eq_getElem hj]; exact List.getElem_mem hj
theorem idx_map (fs : List Fun) (f : Fun) {g : Int} (hg : g ∈ callees f) : (small fs f).getD ((callees f).idxOf g + 1) zF = headF (fs.getD g.toNat zF) := by
 have h := List.idxOf_lt_length_iff.2 hg
 rw [small, List.getD_eq_getElem?_getD, List.getElem?_cons_succ, List.getElem?_map, List.getElem?_eq_getElem h, List.getElem_idxOf h]
 rfl
theorem small_length (fs : List Fun) (f : Fun) : (small fs f).length = (callees f).length + 1 := by simp [small]
def LeE (E E' : List Edg) : Prop := ∀ e ∈ E, ∃ e' ∈ E', e'.f0 = e.f0 ∧ e'.f1 = e.f1 ∧ e'.f2 ≤ e.f2
theorem allE_news (f : Fun) (sums : List Smm) (n0 : Int) : ∀ k, (allE f sums n0 k).2 = n0 + newsTo f.f3 k
 | 0 => by simp [allE, newsTo]
 | k + 1 => by
  have ih := allE_news f sums n0 k
  unfold allE newsTo
  dsimp only
  rw [ih]
  unfold nextE
  split <;> simp <;> omega
theorem need_ok {b : Bool} {e : Int} (h : need b e = .ok ()) : b = true := by
 unfold need at h
 split at h
 ·assumption
 ·cases h
theorem var_of {f : Fun} {v : Int} (h : varOk f v = true) : 0 ≤ v ∧ v < f.f2 := of_decide_eq_true h
theorem list_of {f : Fun} {l : List Int} {m : Int} (h : listQ f l m = .ok ()) : (l.length : Int) = m ∧ ∀ v ∈ l, 0 ≤ v ∧ v < f.f2 := by
 unfold listQ at h
 split at h
 ·rename_i hm
  refine ⟨hm, fun v hv => ?_⟩
  obtain ⟨j, hj, rfl⟩ := List.getElem_of_mem hv
  obtain ⟨_, _, _, h2⟩ := runTo_before h j hj
  have := var_of (need_ok h2)
  rw [List.getD_eq_getElem?_getD, List.getElem?_eq_getElem hj] at this
  exact this
 ·cases h
theorem InsGood.part {G : Int} {fs : List Fun} {f : Fun} {x : Ins} {last : Bool} (h : InsGood G fs f x last) {p : Part} (hp : p ∈ table.getD x.f0.toNat []) : askQ G fs f x f.f3.length p = .ok () := by
 obtain ⟨j, hj, rfl⟩ := List.getElem_of_mem hp
 have := h.ps j hj
 rwa [List.getD_eq_getElem?_getD (l := table.getD x.f0.toNat []), List.getElem?_eq_getElem hj] at this
def zeroOf (ps : List Part) (a b e f : Bool) : Bool := (ps.contains .R || !a) && ((ps.contains .S || !b) && ((ps.contains .A || (ps.contains .V || !e)) && (ps.contains .B || !f)))
theorem plain_zero : ∀ k, k < 18 → ∀ a b c d e f : Bool, (!(bits .andNot .i64 (usedTo [a, b, c, d, e, f] 6) (maskTo (table.getD k []) (table.getD k []).length) == 0) || zeroOf (table.getD k []) a b e f) = true := by decide
theorem InsGood.zero {G : Int} {fs : List Fun} {f : Fun} {x : Ins} {last : Bool} (h : InsGood G fs f x last) :
  (Part.R ∉ table.getD x.f0.toNat [] → x.f1 = 0) ∧ (Part.S ∉ table.getD x.f0.toNat [] → x.f2 = 0) ∧ (Part.A ∉ table.getD x.f0.toNat [] → Part.V ∉ table.getD x.f0.toNat [] → x.f5.length = 0) ∧ (Part.B ∉ table.getD x.f0.toNat [] → x.f6.length = 0) := by
 have hp : (bits .andNot .i64 (usedTo [x.f1 != 0, x.f2 != 0, x.f3 != 0, x.f4 != 0, decide (0 < x.f5.length), decide (0 < x.f6.length)] 6) (maskTo (table.getD x.f0.toNat []) (table.getD x.f0.toNat []).length) == 0) = true := h.pl
 have hz := plain_zero x.f0.toNat (by have := h.o0; omega) (x.f1 != 0) (x.f2 != 0) (x.f3 != 0) (x.f4 != 0) (decide (0 < x.f5.length)) (decide (0 < x.f6.length))
 rw [hp] at hz
 generalize table.getD x.f0.toNat [] = ps at hz ⊢
 unfold zeroOf at hz
 simp only [Bool.not_true, Bool.false_or, Bool.and_eq_true, Bool.or_eq_true, List.contains_iff_mem, Bool.not_eq_true', bne_eq_false_iff_eq, decide_eq_false_iff_not] at hz
 obtain ⟨h1, h2, h3, h4⟩ := hz
 refine ⟨fun hn => ?_, fun hn => ?_, fun ha hv => ?_, fun hn => ?_⟩
 ·rcases h1 with h1 | h1
  ·exact absurd h1 hn
  ·exact h1
 ·rcases h2 with h2 | h2
  ·exact absurd h2 hn
  ·exact h2
 ·rcases h3 with h3 | h3 | h3
  ·exact absurd h3 ha
  ·exact absurd h3 hv
  ·omega
 ·rcases h4 with h4 | h4
  ·exact absurd h4 hn
  ·omega
theorem part_B : ∀ k, k < 18 → Part.B ∈ table.getD k [] → k = 11 := by decide
theorem part_A : ∀ k, k < 18 → Part.A ∈ table.getD k [] → k = 11 := by decide
theorem fit_of {f : Fun} {s : S34} (h : fitsB f s = true) : (s.f0.length : Int) = f.f0 ∧ (s.f1.length : Int) = f.f0 ∧ ∀ i, i < s.f0.length → wOk (s.f0.getD i 0) = true ∧ ((s.f1.getD i []).length : Int) = f.f1 ∧ ∀ d ∈ s.f1.getD i [], wOk d = true := by
 unfold fitsB at h
 rw [Bool.and_eq_true, Bool.and_eq_true, decide_eq_true_eq, decide_eq_true_eq] at h
 refine ⟨h.1, h.2.1, fun i hi => ?_⟩
 have key : ∀ l : List Nat, fitFrom f.f1 s.f0 s.f1 l = true → ∀ i ∈ l, wOk (s.f0.getD i 0) = true ∧ ((s.f1.getD i []).length : Int) = f.f1 ∧ ∀ d ∈ s.f1.getD i [], wOk d = true := by
  intro l
  induction l with
  | nil => intro _ i hi; cases hi
  | cons a l ih =>
   intro hl i hi
   unfold fitFrom at hl
   rw [Bool.and_eq_true, Bool.and_eq_true, Bool.and_eq_true, decide_eq_true_eq, List.all_eq_true] at hl
   rcases List.mem_cons.1 hi with rfl | hi
   ·exact ⟨hl.1, hl.2.1, hl.2.2.1⟩
   ·exact ih hl.2.2.2 i hi
 exact key _ h.2.2 i (List.mem_range.2 hi)
theorem okE_mk {n : Nat} {a b d : Int} (ha : 0 ≤ a ∧ a < n) (hb : 0 ≤ b ∧ b < n) (h1 : -1 ≤ d) (h2 : d ≤ 3) : okE n ⟨a, b, d⟩ := ⟨ha.1, ha.2, hb.1, hb.2, h1, h2⟩
theorem one_ok {n : Nat} {a b d : Int} (ha : 0 ≤ a ∧ a < n) (hb : 0 ≤ b ∧ b < n) (hd : d = 9 ∨ (-1 ≤ d ∧ d ≤ 3)) : ∀ e ∈ oneE a b d, okE n e := by
 unfold oneE
 by_cases h : d = 9
 ·rw [if_pos h]; intro e he; cases he
 ·rw [if_neg h]
  intro e he
  obtain rfl := List.mem_singleton.1 he
  exact okE_mk ha hb (by omega) (by omega)
theorem res_ok {n : Nat} {f : Fun} {rets row : List Int} {a : Int} (ha : 0 ≤ a ∧ a < n) (hr : ∀ v ∈ rets, 0 ≤ atE f v ∧ atE f v < n) (hw : ∀ j, j < rets.length → row.getD j 0 = 9 ∨ (-1 ≤ row.getD j 0 ∧ row.getD j 0 ≤ 3)) : ∀ m, m ≤ rets.length → ∀ e ∈ resE f rets row a m, okE n e
 | 0, _, e, he => by cases he
 | m + 1, hm, e, he => by
  rcases List.mem_append.1 he with he | he
  ·exact res_ok ha hr hw m (by omega) e he
  ·have hx : rets.getD m 0 ∈ rets := by rw [List.getD_eq_getElem?_getD, List.getElem?_eq_getElem (by omega)]; exact List.getElem_mem _
   exact one_ok (hr _ hx) ha (hw m (by omega)) e he
theorem call_ok {n : Nat} {f : Fun} {x : Ins} {s : Smm} (h5 : ∀ v ∈ x.f5, 0 ≤ atE f v ∧ atE f v < n) (h6 : ∀ v ∈ x.f6, 0 ≤ atE f v ∧ atE f v < n) (hn : 0 < n) (hw : ∀ i, i < x.f5.length → (s.f0.getD i 0 = 9 ∨ (-1 ≤ s.f0.getD i 0 ∧ s.f0.getD i 0 ≤ 3)) ∧ ∀ j, j < x.f6.length → (s.f1.getD i []).getD j 0 = 9 ∨ (-1 ≤ (s.f1.getD i []).getD j 0 ∧ (s.f1.getD i []).getD j 0 ≤ 3)) : ∀ m, m ≤ x.f5.length → ∀ e ∈ callE f x s m, okE n e
 | 0, _, e, he => by cases he
 | m + 1, hm, e, he => by
  have hx : x.f5.getD m 0 ∈ x.f5 := by rw [List.getD_eq_getElem?_getD, List.getElem?_eq_getElem (by omega)]; exact List.getElem_mem _
  rcases List.mem_append.1 he with he | he
  ·exact call_ok h5 h6 hn hw m (by omega) e he
  ·rcases List.mem_append.1 he with he | he
   ·exact one_ok ⟨Int.le_refl _, by omega⟩ (h5 _ hx) (hw m (by omega)).1 e he
   ·exact res_ok (h5 _ hx) h6 (hw m (by omega)).2 _ (Nat.le_refl _) e he
theorem ins_ok {G : Int} {fs : List Fun} {sums : List Smm} {f : Fun} {x : Ins} {last : Bool} {n : Nat} {nx : Int} (h : InsGood G fs f x last) (hf : HeadOk f) (hn : (1 + f.f1 + f.f2 ≤ n)) (hnx : x.f0 = 6 → 0 ≤ nx ∧ nx < n) (hio : InsOk sums x) (hfit : x.f0 = 11 → fitsB (fs.getD x.f4.toNat zF) (sums.getD x.f4.toNat zS) = true) : ∀ e ∈ edgE f sums nx x, okE n e := by
 have hr0 := hf.r0
 have hv := fun {v : Int} (hv : 0 ≤ v ∧ v < f.f2) => (show 0 ≤ atE f v ∧ atE f v < n by unfold atE; omega)
 have hR : Part.R ∈ table.getD x.f0.toNat [] → 0 ≤ x.f1 ∧ x.f1 < f.f2 := fun hp => var_of (need_ok (h.part hp))
 have hS : Part.S ∈ table.getD x.f0.toNat [] → 0 ≤ x.f2 ∧ x.f2 < f.f2 := fun hp => var_of (need_ok (h.part hp))
 have hpn : 0 < n := by
  have := hf.p0; have h8 := hf.p1
  split at h8 <;> omega
 unfold edgE
 intro e he
 split at he
 ·rename_i h0
  obtain rfl := List.mem_singleton.1 he
  have a := hv (hR (by rw [h0]; decide)); have b := hv (hS (by rw [h0]; decide))
  exact okE_mk a b (by decide) (by decide)
 ·split at he
  ·rename_i h0
   obtain rfl := List.mem_singleton.1 he
   have a := hv (hR (by rw [h0]; decide)); have b := hv (hS (by rw [h0]; decide))
   exact okE_mk a b (by decide) (by decide)
  ·split at he
   ·rename_i h0
    obtain rfl := List.mem_singleton.1 he
    have a := hv (hR (by rw [h0]; decide)); have b := hv (hS (by rw [h0]; decide))
    exact okE_mk a b (by decide) (by decide)
   ·split at he
    ·rename_i h0
     obtain rfl := List.mem_singleton.1 he
     have b := hv (hS (by rcases h0 with h0 | h0 <;> (rw [h0]; decide)))
     exact okE_mk ⟨Int.le_refl _, by omega⟩ b (by decide) (by decide)
    ·split at he
     ·rename_i h0
      obtain rfl := List.mem_singleton.1 he
      have a := hv (hR (by rw [h0]; decide)); have b := hnx h0
      exact okE_mk a b (by decide) (by decide)
     ·split at he
      ·rename_i h0
       have hA := list_of (h.part (p := .A) (by rw [h0]; decide))
       have hB := list_of (h.part (p := .B) (by rw [h0]; decide))
       obtain ⟨f1, f2, f3⟩ := fit_of (hfit h0)
       refine call_ok (fun v hv5 => hv (hA.2 v hv5)) (fun v hv6 => hv (hB.2 v hv6)) hpn (fun i hi => ?_) _ (Nat.le_refl _) e he
       have hi' : i < (sums.getD x.f4.toNat zS).f0.length := by have := hA.1; omega
       obtain ⟨g1, g2, g3⟩ := f3 i hi'
       refine ⟨by have := wOk_iff g1; omega, fun j hj => ?_⟩
       have hb1 := hB.1
       have hm : ((sums.getD x.f4.toNat zS).f1.getD i []).getD j 0 ∈ (sums.getD x.f4.toNat zS).f1.getD i [] := by
        rw [List.getD_eq_getElem?_getD (l := (sums.getD x.f4.toNat zS).f1.getD i []), List.getElem?_eq_getElem (by omega)]; exact List.getElem_mem _
       have := wOk_iff (g3 _ hm)
       omega
      ·split at he
       ·rename_i h0
        have hV := list_of (h.part (p := .V) (by rw [h0]; decide))
        unfold retE at he
        obtain ⟨j, hj, rfl⟩ := List.mem_map.1 he
        have hj := List.mem_range.1 hj
        have hx : x.f5.getD j 0 ∈ x.f5 := by rw [List.getD_eq_getElem?_getD, List.getElem?_eq_getElem hj]; exact List.getElem_mem _
        have b := hv (hV.2 _ hx)
        have hv1 := hV.1
        have hp := hf.p0; have h8 := hf.p1
        have : f.f2 ≥ 0 := by split at h8 <;> omega
        exact okE_mk ⟨by omega, by omega⟩ b (by decide) (by decide)
       ·cases he
def locsF (f : Fun) : Nat := (1 + f.f1 + f.f2).toNat + newsTo f.f3 f.f3.length
open Go.RowKit Go.Maps Go.Proofs.YtcbcacbbnojdjaaGreatDoorW.PrintWords Go.Proofs.YtcbcacbbnojdjaaGreatDoor.PSolveFunctions
section
variable {P : Program} {ops : Array Oper} {rest : List Oper} {o : Oper} {a : Act} {Q : Exit → Act → World → Prop} {α : Type} {R : α → List Value → Prop}
theorem append_copy {w0 W : World} (base : Nat) (hgd : o.guard = none) (s x : Operand) (t e : TypeId) (z : Value) (size bytes : Nat)
  (ho : o.op = .call { callee := .builtin .append, args := #[s, x], argTypes := #[t, t] })
  (ht : P.underlying t = some (.slice e)) (hinfo : (P.info? e).map (fun i => (i.zero, i.size, i.bytes)) = some (some z, size, bytes)) (hz : z.cells.size = size) (hs0 : 0 < size) (hb0 : 0 < bytes)
  (A : Option Addr) (m c : Nat) (ps : List α) (hs : a.eval s = .slice none 0 0) (hx : a.eval x = .slice A m c) (HR : ReadsRow R size W A m ps) (h1 : ∀ p cs, R p cs → ∀ u ∈ cs, u.oneCell' = true)
  (HB : Below base w0 W) (hbase : base ≤ W.heap.size) (hl : m * bytes ≤ 140737488355328)
  (h : ∀ v1 w1, OwnRow R e size w1 base v1 ps → Below base w0 w1 → W.grownBy w1 none → wpList P ops Q rest (a.put o.dst v1) w1) :
  wpList P ops Q (o :: rest) a W := by
 obtain ⟨i0, hi, hzz⟩ := Option.map_eq_some_iff.1 hinfo
 simp only [Prod.mk.injEq] at hzz
 obtain ⟨hz0, hz1, hz2⟩ := hzz
 have hm : ps.length = m := HR.1
 have hrun : ∃ v1 w1, (Builtin.append_ #[t, t] o.type #[.slice none 0 0, .slice A m c]).run P W = .ok v1 w1 ∧ OwnRow R e size w1 base v1 ps ∧ W.grownBy w1 none := by
  rcases A with _ | ad
  ·have h0 : m = 0 := by
    rcases Nat.eq_zero_or_pos m with h0 | h0
    ·exact h0
    ·obtain ⟨ad, h, _⟩ := HR.2.2 h0
     cases h
   subst h0
   obtain rfl : ps = [] := List.eq_nil_of_length_eq_zero hm
   refine ⟨.slice none 0 0, W, ?_, OwnRow.none_ _ _ _ _ _, World.grownBy.refl W _⟩
   simp [Builtin.append_, run_underlying ht, sizeOf, typeInfo, hi, Builtin.lenOf, Builtin.firstCells]
  ·obtain ⟨inner, hr, hcells⟩ := HR.inner_
   have hone : ∀ u ∈ inner, u.oneCell' = true := by
    intro u hu
    obtain ⟨j, hj, rfl⟩ := List.getElem_of_mem hu
    have hjs : j / size < ps.length := by rw [hr.1] at hj; exact Nat.div_lt_of_lt_mul (by rwa [Nat.mul_comm] at hj)
    refine h1 _ _ (hr.2 (j / size) _ (List.getElem?_eq_getElem hjs)) _ ?_
    refine List.mem_iff_getElem?.2 ⟨j % size, ?_⟩
    rw [List.getElem?_take, if_pos (Nat.mod_lt _ hs0), List.getElem?_drop, Nat.mul_comm, Nat.div_add_mod, List.getElem?_eq_getElem hj]
   obtain ⟨v1, w1, hrn, h2, h3, _, h5⟩ := run_append_own_at (P := P) W base t o.type e i0 z size bytes ht hi hz0 hz1 hz2 hz hs0 (.slice none 0 0) 0 [] (own_nil _ _ _ _) ad m c inner (by rw [hr.1, hm]) hcells hone (by simpa using (by
    have : m ≤ 140737488355328 := Nat.le_trans (Nat.le_mul_of_pos_right _ hb0) hl
    simp only [maxLen]; omega)) (by simpa using hl) hbase
   exact ⟨v1, w1, hrn, ⟨inner, by simpa [hm] using h2, hr⟩, h3⟩
 obtain ⟨v1, w1, hr, hown, hg⟩ := hrun
 refine wpList_plain hgd fun K hK => ?_
 unfold Oper.wp execOp
 simp only [ho, resolve, invoke, builtin, Sem.run_bind, Sem.run_pure, Result.andThen_ok, List.map_toArray, List.map_cons, List.map_nil, hs, hx, hr]
 exact hK _ _ (h v1 w1 hown (HB.grown hg hbase (fun k hk => by cases hk)) hg)
end
theorem row_put {α : Type} {R : α → List Value → Prop} {e : TypeId} {size : Nat} {W : World} {base g n cap : Nat} {ps : List α} (h : OwnRow R e size W base (.slice (some ⟨g, 0, none⟩) n cap) ps) (hn : ps.length = n) (i j : Nat) (hj : j < size) (u : Value) {p' : α}
  (hR : ∀ p cs, ps[i]? = some p → R p cs → R p' (cs.set j u)) : OwnRow R e size (W.setCell ⟨g, i * size + j, none⟩ u) base (.slice (some ⟨g, 0, none⟩) n cap) (ps.set i p') := by
 subst hn
 obtain ⟨inner, ho, hr⟩ := h
 refine ⟨inner.set (i * size + j) u, ?_, ?_, ?_⟩
 ·rw [List.length_set]; exact (ho.stored _ u).1
 ·rw [List.length_set, List.length_set]; exact hr.1
 ·intro m p hm
  rw [List.getElem?_set] at hm
  by_cases hi : i = m
  ·subst hi
   rw [if_pos rfl] at hm
   split at hm
   ·rename_i hlt
    obtain rfl : p' = p := by simpa using hm
    have h2 := hR _ _ (List.getElem?_eq_getElem hlt) (hr.2 i _ (List.getElem?_eq_getElem hlt))
    have : ((inner.set (i * size + j) u).drop (i * size)).take size = ((inner.drop (i * size)).take size).set j u := by
     rw [List.drop_set, if_neg (by omega), Nat.add_sub_cancel_left, List.take_set]
    rw [this]
    exact h2
   ·cases hm
  ·rw [if_neg hi] at hm
   have h2 := hr.2 m p hm
   have : ((inner.set (i * size + j) u).drop (m * size)).take size = (inner.drop (m * size)).take size := by
    apply List.ext_getElem?
    intro q
    rw [List.getElem?_take, List.getElem?_take, List.getElem?_drop, List.getElem?_drop, List.getElem?_set]
    by_cases hq : q < size
    ·rw [if_pos hq, if_pos hq, if_neg]
     intro he
     rcases Nat.lt_or_gt_of_ne hi with hlt | hlt
     ·have : (i + 1) * size ≤ m * size := Nat.mul_le_mul_right _ hlt
      rw [Nat.succ_mul] at this
      omega
     ·have : (m + 1) * size ≤ i * size := Nat.mul_le_mul_right _ hlt
      rw [Nat.succ_mul] at this
      omega
    ·rw [if_neg hq, if_neg hq]
   rw [this]
   exact h2
def Rh (p : Fun × Value) (cs : List Value) : Prop := cs = [.int .i64 p.1.f0, .int .i64 p.1.f1, .int .i64 p.1.f2, p.2] ∧ p.2.oneCell' = true
abbrev jumpCs : Array Value := #[.int .i64 13, .int .i64 0, .int .i64 0, .int .i64 0, .int .i64 0, .slice none 0 0, .slice none 0 0]
def codeNow (M : List Int) (c : List Ins) (i : Nat) : List Ins := (c.take i).map (numb M) ++ c.drop i
theorem codeNow_length (M : List Int) (c : List Ins) (i : Nat) : (codeNow M c i).length = c.length := by simp [codeNow]; omega
theorem codeNow_zero (M : List Int) (c : List Ins) : codeNow M c 0 = c := rfl
theorem codeNow_all (M : List Int) (c : List Ins) : codeNow M c c.length = c.map (numb M) := by simp [codeNow]
theorem codeNow_at (M : List Int) (c : List Ins) (i : Nat) : (codeNow M c i).getD i zI = c.getD i zI := by
 rw [List.getD_eq_getElem?_getD, List.getD_eq_getElem?_getD, codeNow]
 rcases Nat.lt_or_ge i c.length with h | h
 ·rw [List.getElem?_append_right (by simp; omega)]
  simp [show min i c.length = i by omega]
 ·rw [List.getElem?_eq_none (by simp; omega), List.getElem?_eq_none h]
theorem codeNow_succ (M : List Int) (c : List Ins) (i : Nat) (hi : i < c.length) : codeNow M c (i + 1) = (codeNow M c i).set i (numb M (c.getD i zI)) := by
 apply List.ext_getElem?
 intro q
 rw [List.getElem?_set, codeNow, codeNow]
 have hl : ((c.take i).map (numb M) ++ c.drop i).length = c.length := codeNow_length M c i
 rw [hl]
 simp only [List.getElem?_append, List.length_map, List.length_take, List.getElem?_map, List.getElem?_take, List.getElem?_drop]
 rw [show min (i + 1) c.length = i + 1 by omega, show min i c.length = i by omega]
 by_cases h1 : i = q
 ·subst h1
  rw [if_pos (by omega), if_pos rfl, if_pos hi, if_pos (by omega), List.getD_eq_getElem?_getD, List.getElem?_eq_getElem hi]; rfl
 ·rw [if_neg h1]
  by_cases h2 : q < i
  ·rw [if_pos (by omega), if_pos h2, if_pos (by omega), if_pos h2]
  ·rw [if_neg (by omega), if_neg h2, show i + 1 + (q - (i + 1)) = i + (q - i) by omega]
theorem codeNow_same (M : List Int) (c : List Ins) (i : Nat) (hi : i < c.length) (h : (c.getD i zI).f0 ≠ 11) : codeNow M c (i + 1) = codeNow M c i := by
 rw [codeNow_succ M c i hi, show numb M (c.getD i zI) = (codeNow M c i).getD i zI by rw [codeNow_at, numb, if_neg h]]
 apply List.ext_getElem?
 intro q
 rw [List.getElem?_set]
 split
 ·rename_i hq
  subst hq
  split
  ·rename_i hl
   rw [List.getD_eq_getElem?_getD, List.getElem?_eq_getElem hl]; rfl
  ·rename_i hl
   rw [List.getElem?_eq_none (by omega)]
 ·rfl
theorem callsTo_prefix (c : List Ins) (k : Nat) : ∀ d, ∃ l, callsTo c (k + d) = callsTo c k ++ l
 | 0 => ⟨[], by simp⟩
 | d + 1 => by
  obtain ⟨l, hl⟩ := callsTo_prefix c k d
  have hs : callsTo c (k + (d + 1)) = if (c.getD (k + d) zI).f0 = 11 then addQ (callsTo c (k + d)) (c.getD (k + d) zI).f4 else callsTo c (k + d) := rfl
  rw [hs]
  split
  ·unfold addQ
   split
   ·exact ⟨l, hl⟩
   ·exact ⟨l ++ [(c.getD (k + d) zI).f4], by rw [hl, List.append_assoc]⟩
  ·exact ⟨l, hl⟩
theorem idxOf_prefix (f : Fun) {k : Nat} (hk : k ≤ f.f3.length) {g : Int} (hg : g ∈ callsTo f.f3 k) : (callees f).idxOf g = (callsTo f.f3 k).idxOf g := by
 obtain ⟨l, hl⟩ := callsTo_prefix f.f3 k (f.f3.length - k)
 rw [callees, show f.f3.length = k + (f.f3.length - k) by omega, hl, List.idxOf_append, if_pos hg]
def numOf (ms : List Int) (x : Int) : Int := if x ∈ ms then (ms.idxOf x : Int) + 1 else 0
theorem numOf_snoc {ms : List Int} {g : Int} (hg : g ∉ ms) (x : Int) : numOf (ms ++ [g]) x = if x = g then (ms.length : Int) + 1 else numOf ms x := by
 unfold numOf
 by_cases hx : x = g
 ·subst hx
  rw [if_pos (by simp), if_pos rfl, List.idxOf_append, if_neg hg]
  simp
 ·rw [if_neg hx]
  by_cases hm : x ∈ ms
  ·rw [if_pos (by simp [hm]), if_pos hm, List.idxOf_append, if_pos hm]
  ·rw [if_neg (by simp [hm, hx]), if_neg hm]
structure RtAt (w W : World) (G : Int) (A : Option Addr) (c : Nat) (fs : List Fun) (f : Fun) (a5 a6 a7 : Nat) (v u : Value) (hs : List (Fun × Value)) (k : Nat) (D : DataW Unit) (i m q : Nat) : Prop where
 own : W.heap[a5]? = some (.cells #[.int .i64 f.f0, .int .i64 f.f1, .int .i64 f.f2, v] 66 (0, 0))
 code : OwnRow (k79.K w) 79 7 W w.heap.size v (codeNow (callees f) f.f3 i)
 sml : W.heap[a6]? = some (.cells #[.int .i64 G, u] 24 (0, 0))
 row : OwnRow Rh 66 4 W w.heap.size u ((f, v) :: hs)
 ne5 : some a5 ≠ u.ownBlock
 hd : hs.map Prod.fst = (callsTo f.f3 m).map (fun g => fs.getD g.toNat zF)
 jmp : ∀ p ∈ hs, ∃ b, p.2 = .slice (some ⟨b, 0, none⟩) 1 1 ∧ W.heap[b]? = some (.cells jumpCs 79 (0, 0)) ∧ some b ≠ v.ownBlock
 mp : W.ownsMap Tryz.prog 3 (plainElem Tryz.prog 3) a7 k D
 nums : ∀ x : Int, D.atKey (.int .i64 x) (.lit (.int .i64 0)) = .lit (.int .i64 (numOf (callsTo f.f3 q) x))
 cnt : k ≤ q
 pb : W.heap[w.heap.size]? = some (.cells #[.int .i64 G, .slice A fs.length c] 24 (0, 0))
 ne6 : a6 ≠ w.heap.size
 bl : Below w.heap.size w W
 l5 : w.heap.size ≤ a5
 l6 : w.heap.size ≤ a6
 l7 : w.heap.size ≤ a7
theorem rep_head (p : Fun × Value) (h : p.2.oneCell' = true) : Reps Rh 4 [p] [.int .i64 p.1.f0, .int .i64 p.1.f1, .int .i64 p.1.f2, p.2] := by
 refine ⟨rfl, fun j q hq => ?_⟩
 have hj := (List.getElem?_eq_some_iff.1 hq).1
 obtain rfl : j = 0 := by simp at hj; exact hj
 obtain rfl : p = q := by simpa using hq
 exact ⟨rfl, h⟩
theorem RtAt.start {w W : World} {G : Int} {A : Option Addr} {c : Nat} {fs : List Fun} {f : Fun} {a5 : Nat} {A2 : Option Addr} {c2 n2 : Nat} {v3 : Value} (hO : OwnRow (k79.K w) 79 7 W w.heap.size (.slice A2 n2 c2) f.f3) (hB : Below w.heap.size w W)
  (h5 : W.heap[a5]? = some (.cells #[.int .i64 f.f0, .int .i64 f.f1, .int .i64 f.f2, v3] 66 (0, 0))) (hp : W.heap[w.heap.size]? = some (.cells #[.int .i64 G, .slice A fs.length c] 24 (0, 0))) (hlt : w.heap.size < a5) :
  RtAt w ((((W.setCell ⟨a5, 3, none⟩ (.slice A2 n2 c2)).alloc (.cells #[.int .i64 f.f0, .int .i64 f.f1, .int .i64 f.f2, .slice A2 n2 c2] 66)).alloc (.cells #[.int .i64 G, .slice (some ⟨W.heap.size, 0, none⟩) 1 1] 24)).alloc (.map #[] 0))
   G A c fs f a5 (W.heap.size + 1) (W.heap.size + 1 + 1) (.slice A2 n2 c2) (.slice (some ⟨W.heap.size, 0, none⟩) 1 1) [] 0 (.map []) 0 0 0 := by
 have k1 : (W.setCell ⟨a5, 3, none⟩ (.slice A2 n2 c2)).heap[a5]? = some (.cells #[.int .i64 f.f0, .int .i64 f.f1, .int .i64 f.f2, .slice A2 n2 c2] 66 (0, 0)) := blk_put h5 3 _ rfl
 have k2 : OwnRow (k79.K w) 79 7 (W.setCell ⟨a5, 3, none⟩ (.slice A2 n2 c2)) w.heap.size (.slice A2 n2 c2) f.f3 := hO.set_ h5 (by decide) 3 _
 have k3 : (W.setCell ⟨a5, 3, none⟩ (.slice A2 n2 c2)).heap[w.heap.size]? = _ := (blk_far hp (p := ⟨a5, 3, none⟩) (by show _ ≠ a5; omega) _)
 have k4 : Below w.heap.size w (W.setCell ⟨a5, 3, none⟩ (.slice A2 n2 c2)) := hB.setCell (p := ⟨a5, 3, none⟩) (Nat.le_of_lt hlt) _
 have hs : (W.setCell ⟨a5, 3, none⟩ (.slice A2 n2 c2)).heap.size = W.heap.size := by simp
 have h5s := blk_lt h5
 generalize W.setCell ⟨a5, 3, none⟩ (.slice A2 n2 c2) = W1 at k1 k2 k3 k4 hs ⊢
 rw [← hs] at h5s ⊢
 have b1 := below1 W1 (.cells #[.int .i64 f.f0, .int .i64 f.f1, .int .i64 f.f2, .slice A2 n2 c2] 66)
 have r1 : OwnRow Rh 66 4 (W1.alloc (.cells #[.int .i64 f.f0, .int .i64 f.f1, .int .i64 f.f2, .slice A2 n2 c2] 66)) w.heap.size (.slice (some ⟨W1.heap.size, 0, none⟩) 1 1) [(f, .slice A2 n2 c2)] := OwnRow.lit W1 w.heap.size (rep_head (f, .slice A2 n2 c2) rfl) (by omega) (by simp)
 have s1 : (W1.alloc (.cells #[.int .i64 f.f0, .int .i64 f.f1, .int .i64 f.f2, .slice A2 n2 c2] 66)).heap.size = W1.heap.size + 1 := by simp
 generalize hW2 : W1.alloc (.cells #[.int .i64 f.f0, .int .i64 f.f1, .int .i64 f.f2, .slice A2 n2 c2] 66) = W2 at b1 r1 s1 ⊢
 clear hW2
 have b2 := below1 W2 (.cells #[.int .i64 G, .slice (some ⟨W1.heap.size, 0, none⟩) 1 1] 24)
 have n2 := alloc_new W2 (.cells #[.int .i64 G, .slice (some ⟨W1.heap.size, 0, none⟩) 1 1] 24)
 have s2 : (W2.alloc (.cells #[.int .i64 G, .slice (some ⟨W1.heap.size, 0, none⟩) 1 1] 24)).heap.size = W1.heap.size + 2 := by simp [s1]
 generalize hW3 : W2.alloc (.cells #[.int .i64 G, .slice (some ⟨W1.heap.size, 0, none⟩) 1 1] 24) = W3 at b2 n2 s2 ⊢
 clear hW3
 have b3 := below1 W3 (.map #[] 0)
 have b12 : Below W1.heap.size W1 W3 := b1.trans (b2.mono (by omega))
 have b13 : Below W1.heap.size W1 (W3.alloc (.map #[] 0)) := b12.trans (b3.mono (by omega))
 refine ⟨(b13.block _ h5s).trans k1, by rw [codeNow_zero]; exact k2.below b13, ?_, r1.below (b2.trans (b3.mono (by omega))), ?_, rfl, (fun p hp => absurd hp (by simp)), ?_, fun x => ?_, Nat.le_refl _, (b13.block _ (blk_lt k3)).trans k3, by omega, k4.trans (b13.mono (by omega)), Nat.le_of_lt hlt, by omega, by omega⟩
 ·rw [← s1]; exact (b3.block _ (by rw [s1, s2]; omega)).trans n2
 ·simp [Value.ownBlock]; omega
 ·rw [← s2]; exact World.ownsMap_made _ _ _ _
 ·rfl
theorem RtAt.drewN {w W : World} {G : Int} {A : Option Addr} {c : Nat} {fs : List Fun} {f : Fun} {a5 a6 a7 : Nat} {v u : Value} {hs : List (Fun × Value)} {k : Nat} {D : DataW Unit} {i m q : Nat} (h : RtAt w W G A c fs f a5 a6 a7 v u hs k D i m q) (n : Nat) : RtAt w (W.drewN n) G A c fs f a5 a6 a7 v u hs k D i m q := by
 have hh : (W.drewN n).heap = W.heap := rfl
 exact ⟨h.own, h.code, h.sml, h.row, h.ne5, h.hd, h.jmp, h.mp, h.nums, h.cnt, h.pb, h.ne6, pw_below_drewN h.bl n, h.l5, h.l6, h.l7⟩
theorem RtAt.at_ {w W : World} {G : Int} {A : Option Addr} {c : Nat} {fs : List Fun} {f : Fun} {a5 a6 a7 : Nat} {A2 : Option Addr} {c2 : Nat} {u : Value} {hs : List (Fun × Value)} {k : Nat} {D : DataW Unit} {i m q : Nat} (h : RtAt w W G A c fs f a5 a6 a7 (.slice A2 f.f3.length c2) u hs k D i m q) (hi : i < f.f3.length) :
  ∃ g ad, A2 = some ad ∧ ad = ⟨g, 0, none⟩ ∧ W.cell? (ad.add (i * 7)) = some (.int .i64 (f.f3.getD i zI).f0) ∧ W.cell? ⟨(ad.add (i * 7)).block, (ad.add (i * 7)).off + 4, none⟩ = some (.int .i64 (f.f3.getD i zI).f4) ∧ W.frozen? ⟨(ad.add (i * 7)).block, (ad.add (i * 7)).off + 4, none⟩ = false := by
 obtain ⟨inner, ho, hr⟩ := h.code
 have hl := codeNow_length (callees f) f.f3 i
 obtain ⟨g, cap, hv, _, _⟩ := ho.form (by omega)
 have hA : A2 = some ⟨g, 0, none⟩ := by injection hv
 obtain ⟨A', c', he, hle, hrd⟩ := h.code.reads
 have hC : k79.C W A2 f.f3.length (codeNow (callees f) f.f3 i) := by
  obtain ⟨q0, q1, q2⟩ := Value.slice.inj he
  subst q0
  rw [hl] at hrd
  exact ⟨hrd.1, hrd.2.1, fun hn => by
   obtain ⟨ad, e, hc⟩ := hrd.2.2 hn
   refine ⟨ad, e, fun j p hj => ?_⟩
   obtain ⟨cc, h1, h2, h3⟩ := hc j p hj
   exact ⟨cc, h1, k79.K_below h.bl h2, h3⟩⟩
 obtain ⟨ad, A5, c5, A6, c6, hAd, e0, _, _, _, e4, _⟩ := at_T79 hC (i : Int) (by omega) (by omega)
 have hx : rd_T79 (codeNow (callees f) f.f3 i) (i : Int) = f.f3.getD i zI := by rw [rd_T79, Int.toNat_natCast]; exact codeNow_at _ _ _
 rw [hx, Int.toNat_natCast] at e0 e4
 obtain rfl : ad = ⟨g, 0, none⟩ := by rw [hA] at hAd; injection hAd with hAd; exact hAd.symm
 refine ⟨g, _, hAd, rfl, e0, e4, ?_⟩
 subst hAd
 rw [hl] at ho
 rw [add_plain]
 exact ho.frozenAt (i * 7 + 4)
theorem nums_c {D : DataW Unit} {ms : List Int} {x c : Int} (h : ∀ x : Int, D.atKey (.int .i64 x) (.lit (.int .i64 0)) = .lit (.int .i64 (numOf ms x))) (hc : D.atKey (.int .i64 x) (.lit (.int .i64 0)) = .lit (.int .i64 c)) : c = numOf ms x := by
 rw [h x] at hc
 injection hc with hc
 injection hc with _ hc
 exact hc.symm
theorem zero_int (w : World) : (zeroValue 3).run Tryz.prog w = .ok (.int .i64 0) w := by kernel_rfl
theorem callsTo_same {c : List Ins} {i : Nat} (h : (c.getD i zI).f0 ≠ 11) : callsTo c (i + 1) = callsTo c i := if_neg h
theorem callsTo_known {c : List Ins} {i : Nat} (h : (c.getD i zI).f4 ∈ callsTo c i) : callsTo c (i + 1) = callsTo c i := by
 unfold callsTo
 cases i with
 | zero => cases h
 | succ i =>
  split
  ·exact if_pos h
  ·rfl
theorem callsTo_new {c : List Ins} {i : Nat} (h11 : (c.getD i zI).f0 = 11) (h : (c.getD i zI).f4 ∉ callsTo c i) : callsTo c (i + 1) = callsTo c i ++ [(c.getD i zI).f4] := (if_pos h11).trans (if_neg h)
theorem RtAt.skip {w W : World} {G : Int} {A : Option Addr} {c : Nat} {fs : List Fun} {f : Fun} {a5 a6 a7 : Nat} {v u : Value} {hs : List (Fun × Value)} {k : Nat} {D : DataW Unit} {i : Nat} (h : RtAt w W G A c fs f a5 a6 a7 v u hs k D i i i) (hi : i < f.f3.length) (hx : (f.f3.getD i zI).f0 ≠ 11) : RtAt w W G A c fs f a5 a6 a7 v u hs k D (i + 1) (i + 1) (i + 1) :=
 ⟨h.own, by rw [codeNow_same _ _ _ hi hx]; exact h.code, h.sml, h.row, h.ne5, by rw [callsTo_same hx]; exact h.hd, h.jmp, h.mp, fun y => by rw [callsTo_same hx]; exact h.nums y, Nat.le_succ_of_le h.cnt, h.pb, h.ne6, h.bl, h.l5, h.l6, h.l7⟩
theorem RtAt.known {w W : World} {G : Int} {A : Option Addr} {c : Nat} {fs : List Fun} {f : Fun} {a5 a6 a7 : Nat} {v u : Value} {hs : List (Fun × Value)} {k : Nat} {D : DataW Unit} {i : Nat} (h : RtAt w W G A c fs f a5 a6 a7 v u hs k D i i i) (hx : (f.f3.getD i zI).f4 ∈ callsTo f.f3 i) : RtAt w W G A c fs f a5 a6 a7 v u hs k D i (i + 1) (i + 1) :=
 ⟨h.own, h.code, h.sml, h.row, h.ne5, by rw [callsTo_known hx]; exact h.hd, h.jmp, h.mp, fun y => by rw [callsTo_known hx]; exact h.nums y, Nat.le_succ_of_le h.cnt, h.pb, h.ne6, h.bl, h.l5, h.l6, h.l7⟩
theorem RtAt.below {w W : World} {G : Int} {A : Option Addr} {c : Nat} {fs : List Fun} {f : Fun} {a5 a6 a7 : Nat} {v u : Value} {hs : List (Fun × Value)} {k : Nat} {D : DataW Unit} {i m q : Nat} {W1 : World} (h : RtAt w W G A c fs f a5 a6 a7 v u hs k D i m q) (hb : Below W.heap.size W W1) : RtAt w W1 G A c fs f a5 a6 a7 v u hs k D i m q :=
 ⟨(hb.block _ (blk_lt h.own)).trans h.own, h.code.below hb, (hb.block _ (blk_lt h.sml)).trans h.sml, h.row.below hb, h.ne5, h.hd, fun p hp => by
  obtain ⟨b, h1, h2, h3⟩ := h.jmp p hp
  exact ⟨b, h1, (hb.block _ (blk_lt h2)).trans h2, h3⟩, by
  obtain ⟨es, c, he, r⟩ := h.mp
  exact ⟨es, c, (hb.block _ (blk_lt he)).trans he, r⟩, h.nums, h.cnt, (hb.block _ (blk_lt h.pb)).trans h.pb, h.ne6, h.bl.trans (hb.mono h.bl.size), h.l5, h.l6, h.l7⟩
theorem RtAt.put {w W : World} {G : Int} {A : Option Addr} {c : Nat} {fs : List Fun} {f : Fun} {a5 a6 a7 g c2 : Nat} {u : Value} {hs : List (Fun × Value)} {k : Nat} {D : DataW Unit} {i : Nat} (h : RtAt w W G A c fs f a5 a6 a7 (.slice (some ⟨g, 0, none⟩) f.f3.length c2) u hs k D i (i + 1) (i + 1)) (hi : i < f.f3.length) (h11 : (f.f3.getD i zI).f0 = 11) :
  RtAt w (W.setCell ⟨g, i * 7 + 4, none⟩ (.int .i64 (numOf (callsTo f.f3 (i + 1)) (f.f3.getD i zI).f4))) G A c fs f a5 a6 a7 (.slice (some ⟨g, 0, none⟩) f.f3.length c2) u hs k D (i + 1) (i + 1) (i + 1) := by
 have hmem : (f.f3.getD i zI).f4 ∈ callsTo f.f3 (i + 1) := (mem_callsTo _).2 ⟨i, by omega, h11, rfl⟩
 have hob : (Value.slice (some ⟨g, 0, none⟩) f.f3.length c2).ownBlock = some g := rfl
 obtain ⟨cells, hgc⟩ : ∃ cells, W.heap[g]? = some (.cells cells 79 (0, 0)) := by
  obtain ⟨inner, ho, _⟩ := h.code
  exact own_typed ho g rfl
 have hgb : w.heap.size ≤ g := by
  obtain ⟨inner, ho, _⟩ := h.code
  exact own_base ho g rfl
 have hg5 : a5 ≠ g := fun e => h.code.ne_block h.own (by decide) (by rw [e]; rfl)
 have hg6 : a6 ≠ g := fun e => h.code.ne_block h.sml (by decide) (by rw [e]; rfl)
 have hgp : w.heap.size ≠ g := fun e => h.code.ne_block h.pb (by decide) (by rw [e]; rfl)
 refine ⟨blk_far h.own (p := ⟨g, i * 7 + 4, none⟩) hg5 _, ?_, blk_far h.sml (p := ⟨g, i * 7 + 4, none⟩) hg6 _, h.row.set_ hgc (by decide) _ _, h.ne5, h.hd, fun p hp => ?_, h.mp.setCell (a := ⟨g, i * 7 + 4, none⟩) (map_far h.mp hgc) _, h.nums, h.cnt, blk_far h.pb (p := ⟨g, i * 7 + 4, none⟩) hgp _, h.ne6, h.bl.setCell (p := ⟨g, i * 7 + 4, none⟩) hgb _, h.l5, h.l6, h.l7⟩
 ·rw [codeNow_succ _ _ _ hi]
  refine row_put h.code (codeNow_length _ _ _) i 4 (by decide) _ ?_
  intro p cs hp hk
  have hpx : f.f3.getD i zI = p := by
   rw [← codeNow_at (callees f), List.getD_eq_getElem?_getD, hp]; rfl
  subst hpx
  generalize f.f3.getD i zI = x at h11 hmem hk ⊢
  obtain ⟨A5, c5, A6, c6, rfl, l5, g5, l6, g6⟩ := k79_open hk
  have hnx : numb (callees f) x = ⟨x.f0, x.f1, x.f2, x.f3, numOf (callsTo f.f3 (i + 1)) x.f4, x.f5, x.f6⟩ := by
   unfold numb numOf
   rw [if_pos h11, if_pos hmem, idxOf_prefix f (by omega) hmem]
  rw [hnx]
  exact k79_mk w ⟨x.f0, x.f1, x.f2, x.f3, numOf (callsTo f.f3 (i + 1)) x.f4, x.f5, x.f6⟩ l5 g5 l6 g6
 ·obtain ⟨b, h1, h2, h3⟩ := h.jmp p hp
  exact ⟨b, h1, blk_far h2 (p := ⟨g, i * 7 + 4, none⟩) (fun e => h3 (by rw [hob]; exact congrArg some e)) _, h3⟩
theorem RtAt.grow {w W : World} {G : Int} {A : Option Addr} {c : Nat} {fs : List Fun} {f : Fun} {a5 a6 a7 : Nat} {v u : Value} {hs : List (Fun × Value)} {k : Nat} {D : DataW Unit} {i m q : Nat} {W2 : World} {u' : Value} {g : Fun} {b : Nat} (h : RtAt w W G A c fs f a5 a6 a7 v u hs k D i m q) (hrow : OwnRow Rh 66 4 W2 w.heap.size u' ((f, v) :: hs ++ [(g, .slice (some ⟨b, 0, none⟩) 1 1)])) (hbl : Below w.heap.size w W2) (hg : W.grownBy W2 u.ownBlock)
  (hat : u'.ownBlock = u.ownBlock ∨ ∃ b, u'.ownBlock = some b ∧ W.heap.size ≤ b) (hjb : W.heap[b]? = some (.cells jumpCs 79 (0, 0))) (hjv : some b ≠ v.ownBlock) (hm : m < f.f3.length) (hn : callsTo f.f3 (m + 1) = callsTo f.f3 m ++ [(f.f3.getD m zI).f4]) (hgf : g = fs.getD (f.f3.getD m zI).f4.toNat zF) :
  RtAt w (W2.setCell ⟨a6, 1, none⟩ u') G A c fs f a5 a6 a7 v u' (hs ++ [(g, .slice (some ⟨b, 0, none⟩) 1 1)]) k D i (m + 1) q := by
 have hne : ∀ {a : Nat} {o : Obj}, W.heap[a]? = some o → some a ≠ u.ownBlock → W2.heap[a]? = some o := fun ha hx => (hg.block _ (blk_lt ha) hx).trans ha
 have h6 : W2.heap[a6]? = _ := hne h.sml (h.row.ne_block h.sml (by decide))
 have h5 : W2.heap[a5]? = _ := hne h.own h.ne5
 have hp : W2.heap[w.heap.size]? = _ := hne h.pb (h.row.ne_block h.pb (by decide))
 have hcode : OwnRow (k79.K w) 79 7 W2 w.heap.size v (codeNow (callees f) f.f3 i) := by
  obtain ⟨i1, o1, r1⟩ := h.code
  obtain ⟨i2, o2, r2⟩ := h.row
  exact OwnRow.other ⟨i1, o1, r1⟩ hg (own_type_ne o1 o2 (by decide))
 have h56 : a5 ≠ a6 := by
  rintro rfl
  have := h.own.symm.trans h.sml
  injection this with this
  injection this with _ this _
  exact absurd this (by decide)
 refine ⟨blk_far h5 (p := ⟨a6, 1, none⟩) h56 _, hcode.set_ h6 (by decide) 1 _, blk_put h6 1 _ rfl, hrow.set_ h6 (by decide) 1 _, ?_, ?_, fun p hp' => ?_, ?_, h.nums, h.cnt, blk_far hp (p := ⟨a6, 1, none⟩) (Ne.symm h.ne6) _, h.ne6, hbl.setCell (p := ⟨a6, 1, none⟩) h.l6 _, h.l5, h.l6, h.l7⟩
 ·rcases hat with e | ⟨b', e, hb'⟩
  ·rw [e]; exact h.ne5
  ·rw [e]
   intro he
   injection he with he
   have := blk_lt h.own
   omega
 ·rw [List.map_append, h.hd, hn, List.map_append, hgf]; rfl
 ·rcases List.mem_append.1 hp' with hp2 | hp2
  ·obtain ⟨b', h1, h2, h3⟩ := h.jmp p hp2
   have := hne h2 (h.row.ne_block h2 (by decide))
   refine ⟨b', h1, blk_far this (p := ⟨a6, 1, none⟩) ?_ _, h3⟩
   rintro rfl
   have := h2.symm.trans h.sml
   injection this with this
   injection this with _ this _
   exact absurd this (by decide)
  ·obtain rfl := List.mem_singleton.1 hp2
   have := hne hjb (h.row.ne_block hjb (by decide))
   refine ⟨b, rfl, blk_far this (p := ⟨a6, 1, none⟩) ?_ _, hjv⟩
   rintro rfl
   have := hjb.symm.trans h.sml
   injection this with this
   injection this with _ this _
   exact absurd this (by decide)
 ·have hk := h.mp.kept hg (fun e => by
   obtain ⟨es_, c_, hm_⟩ := map_obj h.mp
   obtain ⟨i2, o2, _⟩ := h.row
   obtain ⟨cells_, hq_⟩ := own_typed o2 a7 e.symm
   rw [hm_] at hq_; cases hq_)
  exact hk.setCell (a := ⟨a6, 1, none⟩) (map_far hk h6) _
theorem RtAt.mapped {w W : World} {G : Int} {A : Option Addr} {c : Nat} {fs : List Fun} {f : Fun} {a5 a6 a7 : Nat} {v u : Value} {hs : List (Fun × Value)} {k : Nat} {D : DataW Unit} {i m q : Nat} {W2 : World} {x : Int} (h : RtAt w W G A c fs f a5 a6 a7 v u hs k D i m q) (ho : W2.ownsMap Tryz.prog 3 (plainElem Tryz.prog 3) a7 (k + 1) (D.put (.int .i64 x) (.lit (.int .i64 ((callsTo f.f3 q).length + 1))))) (ht : W.mapTurned W2 a7) (hx : x ∉ callsTo f.f3 q) (hn : callsTo f.f3 (q + 1) = callsTo f.f3 q ++ [x]) :
  RtAt w W2 G A c fs f a5 a6 a7 v u hs (k + 1) (D.put (.int .i64 x) (.lit (.int .i64 ((callsTo f.f3 q).length + 1)))) i m (q + 1) := by
 have hg := ht.grown
 have hcl : ∀ {a : Nat} {cs : Array Value} {t : TypeId}, W.heap[a]? = some (.cells cs t (0, 0)) → W2.heap[a]? = some (.cells cs t (0, 0)) := fun ha => (hg.block _ (blk_lt ha) (fun e => map_far h.mp ha (Option.some.inj e).symm)).trans ha
 have hrw : ∀ {α : Type} {R : α → List Value → Prop} {e size : Nat} {v : Value} {ps : List α}, OwnRow R e size W w.heap.size v ps → OwnRow R e size W2 w.heap.size v ps := by
  rintro α R e size v ps ⟨inner, o, r⟩
  refine OwnRow.other ⟨inner, o, r⟩ hg ?_
  rcases hv : v.ownBlock with _ | b
  ·exact .inl rfl
  ·right
   intro e
   injection e with e
   subst e
   obtain ⟨cells, hc⟩ := own_typed o b hv
   exact map_far h.mp hc rfl
 refine ⟨hcl h.own, hrw h.code, hcl h.sml, hrw h.row, h.ne5, h.hd, fun p hp => ?_, ho, fun y => ?_, Nat.succ_le_succ h.cnt, hcl h.pb, h.ne6, pw_below_grown h.bl (some a7) h.bl.size hg (fun j hj => by cases hj; exact h.l7), h.l5, h.l6, h.l7⟩
 ·obtain ⟨b, h1, h2, h3⟩ := h.jmp p hp
  exact ⟨b, h1, hcl h2, h3⟩
 ·rw [hn, numOf_snoc hx]
  by_cases hy : y = x
  ·subst hy
   rw [if_pos rfl, atKey_put_same h.mp.isMap (show WideAt.IsKeyLit (.int .i64 y) from True.intro)]
  ·rw [if_neg hy, atKey_put_other (by simpa using hy)]
   exact h.nums y
theorem wf_at {x : Int} (h0 : -9223372036854775808 ≤ x) (h1 : x ≤ 9223372036854775807) : (Lit.int IntKind.i64 x).wf = true :=
 Bool.and_eq_true_iff.2 ⟨decide_eq_true (show IntKind.i64.min ≤ x from h0), decide_eq_true (show x ≤ IntKind.i64.max from h1)⟩
theorem small_is {fs : List Fun} {f : Fun} {hs : List (Fun × Value)} (h : hs.map Prod.fst = (callees f).map (fun g => fs.getD g.toNat zF)) : small fs f = ownF f :: hs.map (fun p => headF p.1) := by
 have h2 := congrArg (List.map headF) h
 rw [List.map_map, List.map_map] at h2
 unfold small
 exact congrArg (ownF f :: ·) h2.symm
theorem jump_reads {W : World} {b : Nat} (h : W.heap[b]? = some (.cells jumpCs 79 (0, 0))) : k79.C W (some ⟨b, 0, none⟩) 1 [jumpI] := by
 refine ⟨rfl, by decide, fun _ => ⟨_, rfl, fun j p hj => ?_⟩⟩
 have hj0 := (List.getElem?_eq_some_iff.1 hj).1
 obtain rfl : j = 0 := by simp at hj0; exact hj0
 obtain rfl : jumpI = p := by simpa using hj
 refine ⟨jumpCs.toList, rfl, ?_, fun i u hu => ?_⟩
 ·exact k79_mk W jumpI (A5 := none) (c5 := 0) (Nat.le_refl _) ⟨rfl, by decide, fun h => absurd h (by decide)⟩ (A6 := none) (c6 := 0) (Nat.le_refl _) ⟨rfl, by decide, fun h => absurd h (by decide)⟩
 ·rw [add_plain, blk_cell h]
  simpa using hu
theorem RtAt.done {w W : World} {G : Int} {A : Option Addr} {c : Nat} {fs : List Fun} {f : Fun} {a5 a6 a7 : Nat} {A2 : Option Addr} {c2 : Nat} {u : Value} {hs : List (Fun × Value)} {k : Nat} {D : DataW Unit} (h : RtAt w W G A c fs f a5 a6 a7 (.slice A2 f.f3.length c2) u hs k D f.f3.length f.f3.length f.f3.length) :
  ∃ Au cu, u = .slice Au (small fs f).length cu ∧ k66.C W Au (small fs f).length (small fs f) := by
 have hsm := small_is h.hd
 obtain ⟨Au, cu, hu, hcu, hrd⟩ := h.row.reads
 have hlen : ((f, Value.slice A2 f.f3.length c2) :: hs).length = (small fs f).length := by rw [hsm]; simp
 refine ⟨Au, cu, by rw [hu, hlen], ?_⟩
 rw [hlen] at hrd
 obtain ⟨A', c', he, hle, hcode⟩ := h.code.reads
 obtain ⟨q0, q1, q2⟩ := Value.slice.inj he
 subst q0 q2
 rw [codeNow_all, List.length_map] at hcode
 rw [codeNow_all, List.length_map] at hle
 refine ⟨rfl, hrd.2.1, fun hn => ?_⟩
 obtain ⟨ad, e, hc⟩ := hrd.2.2 hn
 refine ⟨ad, e, fun j p hj => ?_⟩
 rw [hsm] at hj
 cases j with
 | zero =>
  obtain rfl : ownF f = p := by simpa using hj
  obtain ⟨cs, h1, h2, h3⟩ := hc 0 _ rfl
  refine ⟨cs, h1, ?_, h3⟩
  rw [h2.1]
  have hl : f.f3.length = (ownF f).f3.length := by simp [ownF]
  show k66.K W (ownF f) [.int .i64 (ownF f).f0, .int .i64 (ownF f).f1, .int .i64 (ownF f).f2, .slice A2 f.f3.length c2]
  rw [hl]
  refine k66_mk W (ownF f) (by rw [← hl]; exact hle) ?_
  rw [← hl]
  exact ReadsRow.imp_ hcode (Below.refl _ W) (fun p cs hp => k79.K_below h.bl hp)
 | succ j =>
  rw [List.getElem?_cons_succ, List.getElem?_map] at hj
  obtain ⟨q, hq, rfl⟩ := Option.map_eq_some_iff.1 hj
  obtain ⟨cs, h1, h2, h3⟩ := hc (j + 1) q (by rw [List.getElem?_cons_succ]; exact hq)
  refine ⟨cs, h1, ?_, h3⟩
  rw [h2.1]
  obtain ⟨b, e1, e2, _⟩ := h.jmp q (List.mem_of_getElem? hq)
  rw [e1]
  exact k66_mk W (headF q.1) (Nat.le_refl _) (jump_reads e2)
open Go.RowKit Go.Maps Go.Proofs.YtcbcacbbnojdjaaGreatDoorW.PrintWords Go.Proofs.YtcbcacbbnojdjaaGreatDoorW.PrintLast Go.Proofs.YtcbcacbbnojdjaaGreatDoor.PSolveFunctions
def callsIn (n : Nat) (c : List Ins) : Bool := c.all fun x => x.f0 != 11 || (decide (0 ≤ x.f4) && decide (x.f4 < n))
def rightB (G : Int) (fs : List Fun) (f : Int) : Bool := decide (0 ≤ f ∧ f < fs.length) && (callsIn fs.length (fs.getD f.toNat zF).f3 && (chk G (small fs (fs.getD f.toNat zF)) == 0))
theorem callsIn_not {n : Nat} {c : List Ins} {i : Nat} (hi : i < c.length) (h : (c.getD i zI).f0 = 11) (hn : ¬ (0 ≤ (c.getD i zI).f4 ∧ (c.getD i zI).f4 < n)) : callsIn n c = false := by
 unfold callsIn
 rw [List.all_eq_false]
 refine ⟨c.getD i zI, ?_, ?_⟩
 ·rw [List.getD_eq_getElem?_getD, List.getElem?_eq_getElem hi]; exact List.getElem_mem hi
 ·simp only [h, bne_self_eq_false, Bool.false_or, Bool.and_eq_true, decide_eq_true_eq]
  exact hn
theorem callsIn_all {n : Nat} {c : List Ins} (h : ∀ j, j < c.length → (c.getD j zI).f0 = 11 → 0 ≤ (c.getD j zI).f4 ∧ (c.getD j zI).f4 < n) : callsIn n c = true := by
 unfold callsIn
 rw [List.all_eq_true]
 intro x hx
 obtain ⟨j, hj, rfl⟩ := List.getElem_of_mem hx
 have h2 := h j hj
 rw [List.getD_eq_getElem?_getD, List.getElem?_eq_getElem hj] at h2
 by_cases h11 : c[j].f0 = 11
 ·have := h2 h11
  simp only [h11, bne_self_eq_false, Bool.false_or, Bool.and_eq_true, decide_eq_true_eq]
  exact this
 ·simp [h11]
theorem small_fits {fs : List Fun} {f : Fun} (h1 : f.f3.length ≤ 2147483647) (h2 : ∀ x ∈ f.f3, x.f5.length ≤ 2147483647 ∧ x.f6.length ≤ 2147483647) : ∀ f' ∈ small fs f, f'.f3.length ≤ 2147483647 ∧ ∀ x ∈ f'.f3, x.f5.length ≤ 2147483647 ∧ x.f6.length ≤ 2147483647 := by
 intro f' hf
 rcases List.mem_cons.1 hf with rfl | hf
 ·refine ⟨by simpa [ownF] using h1, fun x hx => ?_⟩
  obtain ⟨y, hy, rfl⟩ := List.mem_map.1 hx
  have := h2 y hy
  unfold numb
  split <;> exact this
 ·obtain ⟨g, hg, rfl⟩ := List.mem_map.1 hf
  refine ⟨by simp [headF], fun x hx => ?_⟩
  obtain rfl := List.mem_singleton.1 hx
  simp [jumpI]
theorem info_fun : (Tryz.prog.info? 66).map (fun i => (i.zero, i.size, i.bytes)) = some (some (.agg #[.int .i64 0, .int .i64 0, .int .i64 0, .slice none 0 0]), 4, 48) := by kernel_rfl
theorem info_ins : (Tryz.prog.info? 79).map (fun i => (i.zero, i.size, i.bytes)) = some (some (.agg #[.int .i64 0, .int .i64 0, .int .i64 0, .int .i64 0, .int .i64 0, .slice none 0 0, .slice none 0 0]), 7, 88) := by kernel_rfl
set_option maxRecDepth 100000 in
set_option maxHeartbeats 12800000 in
theorem right_any (G : Int) (A : Option Addr) (c : Nat) (fs : List Fun) (fi : Int) (w : World) (hC : k66.C w A fs.length fs) (hlen : fs.length ≤ 2147483647) (hcode : ∀ f ∈ fs, f.f3.length ≤ 2147483646 ∧ ∀ x ∈ f.f3, x.f5.length ≤ 2147483647 ∧ x.f6.length ≤ 2147483647) :
  Calls Tryz.prog 93 #[.agg #[.int .i64 G, .slice A fs.length c], .int .i64 fi] w fun e w' => e = .returned (.bool (rightB G fs fi)) ∧ Below w.heap.size w w' := by
 have HC := Lib.hid hC
 have HCODE := Lib.hid hcode
 clear hC hcode
 have hb0 := below1 w (.cells #[.int .i64 G, .slice A fs.length c] 24)
 have hn0 := alloc_new w (.cells #[.int .i64 G, .slice A fs.length c] 24)
 have hmm := @run_makeMap Tryz.prog
 go_enter Tryz.func93, Tryz.ntmps93
 go_upto_region 1 with (fail)
 obtain ⟨N, hN⟩ : ∃ N, w.heap.size = N := ⟨_, rfl⟩
 have HN := Lib.hid hN
 rw [hN] at hb0 hn0 ⊢
 clear hN
 generalize World.alloc _ _ = W at hb0 hn0 ⊢
 have HB := Lib.hid hb0
 have HP := Lib.hid hn0
 clear hb0 hn0
 have p1 := blk_cell HP.out 1
 have p0 := blk_cell HP.out 0
 simp only [List.getElem?_toArray, List.getElem?_cons_succ, List.getElem?_cons_zero] at p0 p1
 by_cases h0 : fi < 0
 ·have d0 : decide (fi < 0) = true := decide_eq_true h0
  have HR := Lib.hid (show rightB G fs fi = false by unfold rightB; rw [decide_eq_false (by omega), Bool.false_and])
  clear h0
  go_wp2_with fail
  go_ret
  exact ⟨by rw [HR.out]; rfl, by rw [HN.out]; exact HB.out⟩
 have d0 : decide (fi < 0) = false := decide_eq_false h0
 by_cases h1 : (fs.length : Int) ≤ fi
 ·have d1 : decide ((fs.length : Int) ≤ fi) = true := decide_eq_true h1
  have HR := Lib.hid (show rightB G fs fi = false by unfold rightB; rw [decide_eq_false (by omega), Bool.false_and])
  clear h0 h1
  go_wp2_with fail
  go_ret
  exact ⟨by rw [HR.out]; rfl, by rw [HN.out]; exact HB.out⟩
 have d1 : decide ((fs.length : Int) ≤ fi) = false := decide_eq_false h1
 have hf0 : 0 ≤ fi := by omega
 have hf1 : fi < fs.length := by omega
 clear h0 h1
 obtain ⟨ad, A3, c3, hA, e0, e1, e2, e3, hc3, hC3⟩ := at_T66 (Kd.C_below HC.out (by rw [HN.out]; exact HB.out)) fi hf0 hf1
 obtain ⟨f, hf⟩ : ∃ f, f = fs.getD fi.toNat zF := ⟨_, rfl⟩
 have hf' : rd_T66 fs fi = f := hf.symm
 rw [hf'] at e0 e1 e2 e3 hc3 hC3
 have hfm : f ∈ fs := hf ▸ (by rw [List.getD_eq_getElem?_getD, List.getElem?_eq_getElem (show fi.toNat < fs.length by omega)]; exact List.getElem_mem _)
 have hcl := (HCODE.out f hfm).1
 have HCF := Lib.hid (HCODE.out f hfm)
 subst hA
 have HF := Lib.hid hf
 have HC3 := Lib.hid hC3
 have HRR := Lib.hid (fun W' (hb : Below N w W') => (show ReadsRow (k79.K w) 7 W' A3 f.f3.length f.f3 from by
  obtain ⟨_, A3', c3', hA', _, _, _, g3, _, hC'⟩ := at_T66 HC.out fi hf0 hf1
  rw [hf'] at g3 hC'
  injection hA' with hA'
  subst hA'
  have hq := (below_cells (HN.out ▸ HB.out) _ _ g3).symm.trans e3
  injection hq with hq
  obtain ⟨q0, _, q1⟩ := Value.slice.inj hq
  subst q0 q1
  exact ReadsRow.imp_ hC' (HN.out ▸ hb) (fun _ _ h => h)))
 clear hf hf' hfm hC3
 go_upto_region 4 with (fail)
 obtain ⟨a5, h5⟩ : ∃ a5, W.heap.size = a5 := ⟨_, rfl⟩
 have hb1 := below1 W (.cells #[.int .i64 f.f0, .int .i64 f.f1, .int .i64 f.f2, .slice A3 f.f3.length c3] 66)
 have hn1 := alloc_new W (.cells #[.int .i64 f.f0, .int .i64 f.f1, .int .i64 f.f2, .slice A3 f.f3.length c3] 66)
 have HP1 := Lib.hid ((hb1.block _ (blk_lt HP.out)).trans HP.out)
 have hlt5 : N < a5 := h5 ▸ blk_lt HP.out
 have hz1 : (W.alloc (.cells #[.int .i64 f.f0, .int .i64 f.f1, .int .i64 f.f2, .slice A3 f.f3.length c3] 66)).heap.size = a5 + 1 := by rw [← h5]; simp
 have HB1 := Lib.hid (HB.out.trans (hb1.mono (by rw [h5]; omega)))
 rw [h5] at hn1 ⊢
 clear h5 hb1 e0 e1 e2 e3 p0 p1 d0 d1 HP HB
 generalize World.alloc _ _ = W1 at HP1 HB1 hn1 hz1 ⊢
 have HO1 := Lib.hid hn1
 clear hn1
 have q3 := blk_cell HO1.out 3
 have p0 := blk_cell HP1.out 0
 simp only [List.getElem?_toArray, List.getElem?_cons_succ, List.getElem?_cons_zero] at p0 q3
 have hRR : ReadsRow (k79.K w) 7 W1 A3 f.f3.length f.f3 := HRR.out _ HB1.out
 have HRR1 := Lib.hid hRR
 clear hRR
 go_upto_region 7 with (first | (at_builtin; refine append_copy (w0 := w) N rfl (.const (.slice none 0 0)) (.tmp 26) 64 79 _ 7 88 rfl Tryz.underlying64 info_ins rfl (by decide) (by decide) A3 f.f3.length c3 f.f3 rfl rfl HRR1.out (fun p cs hp => k79.K_one hp) HB1.out (by omega) (by omega) ?_; intro v W2 hO2 hb2 hg2; obtain ⟨A2, c2, rfl, hc2⟩ := hO2.slice_; have ho2 := (hg2.block a5 (by omega) (by simp)).trans HO1.out; have hp2 := (hg2.block N (by omega) (by simp)).trans HP1.out; have hz2 := hg2.size; have HO2 := Lib.hid hO2; have HB2 := Lib.hid hb2; have H52 := Lib.hid ho2; have HP2 := Lib.hid hp2; have z3 := blk_frozen ho2 3; have q4 := blk_cell ho2 3; have q5 := blk_cell ho2 0; have q6 := blk_cell ho2 1; have q7 := blk_cell ho2 2; have q8 := blk_cell hp2 0; clear hO2 hb2 hg2 ho2 hp2; simp only [List.getElem?_toArray, List.getElem?_cons_succ, List.getElem?_cons_zero] at q4 q5 q6 q7 q8))
 have hst := RtAt.start (A := some ad) (fs := fs) (c := c) (f := f) (G := G) (a5 := a5) (w := w) (W := W2) (by rw [HN.out]; exact HO2.out) (by rw [HN.out]; exact HB2.out) H52.out (by rw [HN.out]; exact HP2.out) (by rw [HN.out]; exact hlt5)
 have HST := Lib.hid hst
 obtain ⟨z, hz⟩ : ∃ z, W2.heap.size = z := ⟨_, rfl⟩
 rw [hz] at HST ⊢
 clear hz hst z3 q4 q5 q6 q7 q8 hmm HO2 HB2 H52 HP2 HRR1 HO1 HB1 HP1 p0 q3 hz2 hz1
 generalize World.alloc _ _ = W3 at HST ⊢
 have q3 := blk_cell HST.out.own 3
 simp only [List.getElem?_toArray, List.getElem?_cons_succ, List.getElem?_cons_zero] at q3
 go_wp2_with fail
 clear q3
 go_loopw [38] (fun i wr => ∃ (j : Nat) (u : Value) (hs : List (Fun × Value)) (k : Nat) (D : DataW Unit), j ≤ f.f3.length ∧ i = .int .i64 j ∧ (∀ m, m < j → (f.f3.getD m zI).f0 = 11 → 0 ≤ (f.f3.getD m zI).f4 ∧ (f.f3.getD m zI).f4 < fs.length) ∧ RtAt w wr G (some ad) c fs f a5 (z + 1) (z + 1 + 1) (.slice A2 f.f3.length c2) u hs k D j j j) (fun i _ => f.f3.length - (intOf i).toNat)
 case atStart => exact ⟨0, _, _, _, _, by omega, rfl, fun m hm => absurd hm (by omega), HST.out⟩
 case round =>
  clear HST
  obtain ⟨j, u, hs, k, D, hj, rfl, hin, hrt⟩ := hrel
  have HIN := Lib.hid hin
  have HRT := Lib.hid hrt
  clear hin hrt
  by_cases hlt : j < f.f3.length
  ·obtain ⟨g, ad2, hA2, hg, x0, x4, z4⟩ := HRT.out.at_ hlt
   obtain ⟨x, hx⟩ : ∃ x, x = f.f3.getD j zI := ⟨_, rfl⟩
   rw [← hx] at x0 x4
   have HX := Lib.hid hx
   have HG := Lib.hid hg
   subst hA2
   have q3 := blk_cell HRT.out.own 3
   have p1 := blk_cell HRT.out.pb 1
   rw [HN.out] at p1
   simp only [List.getElem?_toArray, List.getElem?_cons_succ, List.getElem?_cons_zero] at q3 p1
   clear hx hg
   by_cases h11 : x.f0 = 11
   ·have b11 : (x.f0 != 11) = false := by simpa using h11
    have H11 := Lib.hid h11
    clear h11
    go_upto_region 12 with (fail)
    by_cases h0 : x.f4 < 0
    ·have d0 : decide (x.f4 < 0) = true := decide_eq_true h0
     have HR := Lib.hid (show rightB G fs fi = false by
      unfold rightB
      rw [← HF.out, callsIn_not hlt (HX.out ▸ H11.out) (by rw [← HX.out]; omega), Bool.false_and, Bool.and_false])
     clear h0
     go_quiet (fail)
     go_wp2_with fail
     go_ret
     exact ⟨by rw [HR.out]; rfl, pw_below_drewN HRT.out.bl _⟩
    have d0 : decide (x.f4 < 0) = false := decide_eq_false h0
    by_cases h1 : (fs.length : Int) ≤ x.f4
    ·have d1 : decide ((fs.length : Int) ≤ x.f4) = true := decide_eq_true h1
     have HR := Lib.hid (show rightB G fs fi = false by
      unfold rightB
      rw [← HF.out, callsIn_not hlt (HX.out ▸ H11.out) (by rw [← HX.out]; omega), Bool.false_and, Bool.and_false])
     clear h0 h1
     go_quiet (fail)
     go_wp2_with fail
     go_ret
     exact ⟨by rw [HR.out]; rfl, pw_below_drewN HRT.out.bl _⟩
    have d1 : decide ((fs.length : Int) ≤ x.f4) = false := decide_eq_false h1
    have hx0 : 0 ≤ x.f4 := by omega
    have hx1 : x.f4 < fs.length := by omega
    clear h0 h1
    go_quiet (fail)
    have hrt := HRT.out.drewN nq
    have y3 : (wr.drewN nq).cell? _ = _ := q3
    have y1 : (wr.drewN nq).cell? _ = _ := p1
    have y4 : (wr.drewN nq).cell? _ = _ := x4
    have y5 : (wr.drewN nq).frozen? _ = _ := z4
    clear x0 x4 z4 q3 p1 HRT d0 d1 b11
    generalize wr.drewN nq = wd at hrt y3 y1 y4 y5 ⊢
    have HRT := Lib.hid hrt
    clear hrt
    have HK := Lib.hid (key_at (x := x.f4) (by omega) (by omega))
    have hxj : (f.f3.getD j zI).f4 = x.f4 := by rw [HX.out]
    have HXJ := Lib.hid hxj
    clear hxj
    have HI2 := Lib.hid (show ∀ m, m < j + 1 → (f.f3.getD m zI).f0 = 11 → 0 ≤ (f.f3.getD m zI).f4 ∧ (f.f3.getD m zI).f4 < fs.length by
     intro m hm h11
     by_cases hmj : m = j
     ·subst hmj; rw [HXJ.out]; exact ⟨hx0, hx1⟩
     ·exact HIN.out m (by omega) h11)
    by_cases hm : x.f4 ∈ callsTo f.f3 j
    ·obtain ⟨nv, hnv⟩ : ∃ nv, numOf (callsTo f.f3 j) x.f4 = nv := ⟨_, rfl⟩
     have b0 : (nv == 0) = false := by
      rw [← hnv, numOf, if_pos hm]
      simp; omega
     have HNV := Lib.hid hnv
     have HM := Lib.hid hm
     clear hnv hm
     go_wp2_with (first | (at_lookup; refine wpList_lookup_own_int _ rfl _ _ 174 rfl 3 3 .i64 key_int Tryz.underlying174 Tryz.underlying3 (zero_int _) (z + 1 + 1) k D rfl HRT.out.mp _ _ rfl HK.out ?_; intro cv hcv _; obtain rfl : nv = cv := ((nums_c HRT.out.nums hcv).trans HNV.out).symm; clear hcv))
     go_roundw
     case rel =>
      refine ⟨j + 1, u, hs, k, D, by omega, by go_num, HI2.out, ?_⟩
      have := (HRT.out.known (by rw [HXJ.out]; exact HM.out))
      rw [HG.out] at this ⊢
      have := this.put hlt (by rw [← HX.out]; exact H11.out)
      rw [callsTo_known (by rw [HXJ.out]; exact HM.out), HXJ.out, HNV.out] at this
      rw [add_plain]
      exact this
     case measure => simp [intOf]; omega
    ·have hnm : numOf (callsTo f.f3 j) x.f4 = 0 := if_neg hm
     have hnc : callsTo f.f3 (j + 1) = callsTo f.f3 j ++ [x.f4] := by rw [callsTo_new (by rw [← HX.out]; exact H11.out) (by rw [HXJ.out]; exact hm), HXJ.out]
     have HNM := Lib.hid hnm
     have HNC := Lib.hid hnc
     have HM := Lib.hid hm
     clear hnm hnc hm
     have hln : (((f, Value.slice (some ad2) f.f3.length c2) :: hs).length + 1) * 48 ≤ 140737488355328 := by
      have h1 := congrArg List.length HRT.out.hd
      have h2 := calls_news f.f3 j
      rw [List.length_map, List.length_map] at h1
      rw [List.length_cons]
      omega
     have HLN := Lib.hid hln
     clear hln
     obtain ⟨_, A4, c4, hA4, e0, e1, e2, e3, hc4, hC4⟩ := at_T66 (Kd.C_below HC.out HRT.out.bl) x.f4 hx0 hx1
     obtain ⟨gf, hgf⟩ : ∃ gf, gf = fs.getD x.f4.toNat zF := ⟨_, rfl⟩
     have hgf' : rd_T66 fs x.f4 = gf := hgf.symm
     rw [hgf'] at e0 e1 e2 e3 hc4 hC4
     injection hA4 with hA4
     subst hA4
     have HGF := Lib.hid hgf
     clear hgf hgf' hC4
     go_upto_region 15 with (first | (at_lookup; refine wpList_lookup_own_int _ rfl _ _ 174 rfl 3 3 .i64 key_int Tryz.underlying174 Tryz.underlying3 (zero_int _) (z + 1 + 1) k D rfl HRT.out.mp _ _ rfl HK.out ?_; intro cv hcv _; obtain rfl : cv = 0 := (nums_c HRT.out.nums hcv).trans HNM.out; clear hcv))
     have n1 : N < wd.heap.size := World.block_lt_of_cell? wd _ y1
     have n2 : (ad2.add (j * 7)).block < wd.heap.size := World.block_lt_of_cell? wd ⟨(ad2.add (j * 7)).block, (ad2.add (j * 7)).off + 4, none⟩ y4
     have n3 : (ad.add (x.f4.toNat * 4)).block < wd.heap.size := World.block_lt_of_cell? wd _ e0
     go_region
     have hb4 := below1 wd (.cells #[.int .i64 gf.f0, .int .i64 gf.f1, .int .i64 gf.f2, .slice A4 gf.f3.length c4] 66)
     have hn4 := alloc_new wd (.cells #[.int .i64 gf.f0, .int .i64 gf.f1, .int .i64 gf.f2, .slice A4 gf.f3.length c4] 66)
     have hz4 : (wd.alloc (.cells #[.int .i64 gf.f0, .int .i64 gf.f1, .int .i64 gf.f2, .slice A4 gf.f3.length c4] 66)).heap.size = wd.heap.size + 1 := by simp
     obtain ⟨a10, h10⟩ : ∃ a10, wd.heap.size = a10 := ⟨_, rfl⟩
     have H10 := Lib.hid h10
     have HB4 := Lib.hid (show Below a10 wd ((wd.alloc (.cells #[.int .i64 gf.f0, .int .i64 gf.f1, .int .i64 gf.f2, .slice A4 gf.f3.length c4] 66)).drew) from h10 ▸ below_drew hb4)
     have HVL := Lib.hid (show ∀ kk, (Value.slice (some ad2) f.f3.length c2).ownBlock = some kk → kk < a10 from fun kk hk => by
      obtain ⟨inner, o, _⟩ := HRT.out.code
      rw [← h10]
      exact own_lt o kk hk)
     rw [h10] at hn4 hz4 ⊢
     clear hb4 h10 e0 e1 e2 e3 n1 n2 n3 y1 y3 y4 y5
     have HN4 := Lib.hid (show ((wd.alloc (.cells #[.int .i64 gf.f0, .int .i64 gf.f1, .int .i64 gf.f2, .slice A4 gf.f3.length c4] 66)).drew).heap[a10]? = _ from hn4)
     have hz4' : ((wd.alloc (.cells #[.int .i64 gf.f0, .int .i64 gf.f1, .int .i64 gf.f2, .slice A4 gf.f3.length c4] 66)).drew).heap.size = a10 + 1 := hz4
     clear hn4 hz4
     generalize (World.alloc _ _).drew = W4 at HB4 HN4 hz4' ⊢
     have z3 := blk_frozen HN4.out 3
     have zc := blk_cell HN4.out 3
     simp only [List.getElem?_toArray, List.getElem?_cons_succ, List.getElem?_cons_zero] at zc
     go_upto_region 17 with (fail)
     have k5 : (W4.setCell ⟨a10, 3, none⟩ (.slice (some ⟨a10 + 1, 0, none⟩) 1 1)).heap[a10]? = some (.cells #[.int .i64 gf.f0, .int .i64 gf.f1, .int .i64 gf.f2, .slice (some ⟨a10 + 1, 0, none⟩) 1 1] 66 (0, 0)) := blk_put HN4.out 3 _ rfl
     have k6 : Below a10 wd (W4.setCell ⟨a10, 3, none⟩ (.slice (some ⟨a10 + 1, 0, none⟩) 1 1)) := HB4.out.setCell (p := ⟨a10, 3, none⟩) (Nat.le_refl _) _
     have k7 : (W4.setCell ⟨a10, 3, none⟩ (.slice (some ⟨a10 + 1, 0, none⟩) 1 1)).heap.size = a10 + 1 := by rw [← hz4']; simp
     clear z3 zc hz4' HN4 HB4
     generalize W4.setCell ⟨a10, 3, none⟩ (.slice (some ⟨a10 + 1, 0, none⟩) 1 1) = W5 at k5 k6 k7 ⊢
     have b6 := below1 W5 (.cells jumpCs 79)
     have n6 := alloc_new W5 (.cells jumpCs 79)
     have k8 := (b6.block _ (blk_lt k5)).trans k5
     have k9 : Below a10 wd (W5.alloc (.cells jumpCs 79)) := k6.trans (b6.mono (by omega))
     have s6 : (W5.alloc (.cells jumpCs 79)).heap.size = a10 + 2 := by simp [k7]
     rw [k7] at n6
     clear k5 k6 k7 b6
     generalize World.alloc _ _ = W6 at k8 k9 s6 n6 ⊢
     have HR6 := Lib.hid (HRT.out.below (by rw [H10.out]; exact k9))
     have HJ6 := Lib.hid n6
     clear n6 k9 HRT H10
     have r0 := blk_cell k8 0
     have r1 := blk_cell k8 1
     have r2 := blk_cell k8 2
     have r3 := blk_cell k8 3
     have r6 := blk_cell HR6.out.sml 1
     simp only [List.getElem?_toArray, List.getElem?_cons_succ, List.getElem?_cons_zero] at r0 r1 r2 r3 r6
     clear k8
     go_upto_region 18 with (first | (at_builtin; refine OwnRow.append (R := Rh) (w0 := w) (W := W6) w.heap.size rfl (.tmp 84) (.tmp 86) 22 66 _ 4 48 rfl Tryz.underlying22 info_fun rfl (by decide) (by decide) u ((f, .slice (some ad2) f.f3.length c2) :: hs) (gf, .slice (some ⟨a10 + 1, 0, none⟩) 1 1) [.int .i64 gf.f0, .int .i64 gf.f1, .int .i64 gf.f2, .slice (some ⟨a10 + 1, 0, none⟩) 1 1] rfl (by rw [s6]; rfl) ⟨rfl, rfl⟩ rfl (by intro q hq; simp at hq; rcases hq with rfl | rfl | rfl | rfl <;> rfl) HR6.out.row HR6.out.bl HR6.out.bl.size HLN.out ?_; intro u' W7 hrow7 hbl7 hg7 hat7; obtain ⟨Au, cu, hu7, _⟩ := hrow7.slice_; rw [List.length_append, List.length_cons, List.length_singleton] at hu7; subst hu7; have h67 := (hg7.block _ (blk_lt HR6.out.sml) (HR6.out.row.ne_block HR6.out.sml (by decide))).trans HR6.out.sml; have zz6 := blk_frozen h67 1; have zc6 := blk_cell h67 1; simp only [List.getElem?_toArray, List.getElem?_cons_succ, List.getElem?_cons_zero] at zc6))
     have HR8 := Lib.hid (HR6.out.grow hrow7 hbl7 hg7 hat7 HJ6.out (by
      intro e
      have := HVL.out (a10 + 1) e.symm
      omega) hlt (by rw [HNC.out, HXJ.out]) (by rw [HXJ.out]; exact HGF.out))
     have hhl := congrArg List.length HR6.out.hd
     rw [List.length_map, List.length_map] at hhl
     have HHL := Lib.hid hhl
     clear hhl r0 r1 r2 r3 r6 h67 zz6 zc6 hrow7 hbl7 hg7 hat7 HR6 HJ6 s6
     generalize World.setCell _ _ _ = W8 at HR8 ⊢
     obtain ⟨g', ad', hA2', hg', x0, x4, z4⟩ := HR8.out.at_ hlt
     injection hA2' with hA2'
     subst hA2'
     clear hg'
     rw [HXJ.out] at x4
     have r6 := blk_cell HR8.out.sml 1
     simp only [List.getElem?_toArray, List.getElem?_cons_succ, List.getElem?_cons_zero] at r6
     have hhb : hs.length ≤ 2147483648 := by
      have h2 := calls_news f.f3 j
      rw [HHL.out]; omega
     go_still_tail 9, (by kernel_rfl)
     change wpList _ _ _ _ _ W8.drew
     rw [IntWalk.i64_in ((hs.length : Int) + 1) ⟨by omega, by omega⟩]
     have HR9 := Lib.hid (HR8.out.drewN 1)
     have HR9 : Hid (RtAt w W8.drew _ _ _ _ _ _ _ _ _ _ _ _ _ _ _ _) := HR9
     clear x0 x4 z4 r6 HR8
     generalize W8.drew = W9 at HR9 ⊢
     have hkm : k < maxLen := by have := HR9.out.cnt; have := hlt; unfold maxLen; omega
     have HWF := Lib.hid (wf_at (x := (hs.length : Int) + 1) (by omega) (by omega))
     go_upto_region 19 with (first | (at_mapUpdate; refine wpList_mapUpdate_in _ rfl _ _ _ 174 rfl 3 3 key_int Tryz.underlying174 (plainElem Tryz.prog 3) (z + 1 + 1) k D rfl HR9.out.mp hkm _ _ _ rfl rfl HK.out (.lit (.int .i64 ((hs.length : Int) + 1))) [] (plainElem_int Tryz.underlying3 HWF.out) ?_; intro W10 hown hturn))
     rw [HHL.out] at hown
     have HR10 := Lib.hid (HR9.out.mapped hown hturn HM.out HNC.out)
     clear hown hturn HR9
     obtain ⟨nv, hnv⟩ : ∃ nv, numOf (callsTo f.f3 (j + 1)) x.f4 = nv := ⟨_, rfl⟩
     have HNV := Lib.hid hnv
     clear hnv
     obtain ⟨g', ad', hA2', hg', x0, x4, z4⟩ := HR10.out.at_ hlt
     injection hA2' with hA2'
     subst hA2'
     clear hg'
     rw [HXJ.out] at x4
     go_wp2_with (first | (at_lookup; refine wpList_lookup_own_int _ rfl _ _ 174 rfl 3 3 .i64 key_int Tryz.underlying174 Tryz.underlying3 (zero_int _) (z + 1 + 1) (k + 1) _ rfl HR10.out.mp _ _ rfl HK.out ?_; intro cv hcv _; obtain rfl : nv = cv := ((nums_c HR10.out.nums hcv).trans HNV.out).symm; clear hcv))
     go_roundw
     case rel =>
      refine ⟨j + 1, .slice Au (hs.length + 1 + 1) cu, hs ++ [(gf, .slice (some ⟨a10 + 1, 0, none⟩) 1 1)], k + 1, D.put (.int .i64 x.f4) (.lit (.int .i64 ((callsTo f.f3 j).length + 1))), by omega, by go_num, HI2.out, ?_⟩
      have := HR10.out
      rw [HG.out] at this ⊢
      have := this.put hlt (by rw [← HX.out]; exact H11.out)
      rw [HXJ.out, HNV.out] at this
      rw [add_plain]
      exact this
     case measure => simp [intOf]; omega
   ·have b11 : (x.f0 != 11) = true := by simpa using h11
    have HRN := Lib.hid (HRT.out.skip hlt (by rw [← HX.out]; exact h11))
    have HI2 := Lib.hid (show ∀ m, m < j + 1 → (f.f3.getD m zI).f0 = 11 → 0 ≤ (f.f3.getD m zI).f4 ∧ (f.f3.getD m zI).f4 < fs.length by
     intro m hm h11'
     by_cases hmj : m = j
     ·subst hmj; exact absurd (HX.out ▸ h11') h11
     ·exact HIN.out m (by omega) h11')
    clear h11 HRT HIN
    go_wp2_with fail
    go_roundw
    case rel => exact ⟨j + 1, _, _, _, _, by omega, by go_num, HI2.out, HRN.out⟩
    case measure => simp [intOf]; omega
  ·obtain rfl : f.f3.length = j := by omega
   have HCI := Lib.hid (callsIn_all HIN.out)
   obtain ⟨Au, cu, hu, hCs⟩ := HRT.out.done
   subst hu
   have hcs := small_fits (f := f) (fs := fs) (by omega) (fun x hx => (HCF.out).2 x hx)
   have hln : (small fs f).length ≤ 2147483647 := by
    rw [small_length]
    have := calls_news f.f3 f.f3.length
    show (callsTo f.f3 f.f3.length).length + 1 ≤ _
    omega
   have HCK := Lib.hid (check_any G Au cu (small fs f) wr hCs hln hcs)
   have HBL := Lib.hid HRT.out.bl
   have q3 := blk_cell HRT.out.own 3
   have r0 := blk_cell HRT.out.sml 0
   have r1 := blk_cell HRT.out.sml 1
   simp only [List.getElem?_toArray, List.getElem?_cons_succ, List.getElem?_cons_zero] at q3 r0 r1
   clear HRT hCs hcs hln HIN hlt hj
   have HR := Lib.hid (show rightB G fs fi = (chk G (small fs f) == 0) by
    unfold rightB
    rw [← HF.out, HCI.out, decide_eq_true ⟨hf0, hf1⟩]; rfl)
   go_wp2_with fail
   refine HCK.out.mono ?_
   rintro e W11 ⟨rfl, hb⟩
   have HB11 := Lib.hid hb
   clear hb
   go_wp2_with fail
   go_ret
   refine ⟨by rw [HR.out]; rfl, HBL.out.trans (HB11.out.mono HBL.out.size)⟩
end Go.Proofs.YtcbcacbbnojdjaaGreatDoor
