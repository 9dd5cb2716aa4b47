/-
 Part Q of what the law's proof needs: walks of the program's functions and the plain laws of what they tell. No condition.
-/
import Derived.Test.YtcbcacbbnojdjaaGreatDoorMgK
import Derived.Deep.QuietTactic
import Derived.BigQuiet
namespace Go.Proofs.YtcbcacbbnojdjaaGreatDoor
open Go.RowKit Go.Proofs.YtcbcacbbnojdjaaGreatDoorW.PrintWords Go.Proofs.YtcbcacbbnojdjaaGreatDoor.PSolveFunctions
set_option linter.unusedVariables false
set_option linter.unusedSimpArgs false
def escTo (r : Int) (fl : List Int) (l : List Bool) : Nat → List Bool
 | 0 => l
 | i + 1 => if 1 + r ≤ (i : Int) ∧ fl.getD i 0 = -1 ∧ l.getD i false = false then (escTo r fl l i).set i true else escTo r fl l i
def newTo (r : Int) (fl : List Int) (l : List Bool) : Nat → Nat
 | 0 => 0
 | i + 1 => if 1 + r ≤ (i : Int) ∧ fl.getD i 0 = -1 ∧ l.getD i false = false then newTo r fl l i + 1 else newTo r fl l i
theorem escTo_length (r : Int) (fl : List Int) (l : List Bool) : ∀ i, (escTo r fl l i).length = l.length
 | 0 => rfl
 | i + 1 => by
  unfold escTo
  split
  ·rw [List.length_set]; exact escTo_length r fl l i
  ·exact escTo_length r fl l i
theorem getD_setB (l : List Bool) (i j : Nat) (hi : i < l.length) : (l.set i true).getD j false = (decide (j = i) || l.getD j false) := by
 simp only [List.getD_eq_getElem?_getD, List.getElem?_set]
 by_cases h : i = j
 ·subst h
  simp [hi]
 ·rw [if_neg h, decide_eq_false (fun e => h e.symm), Bool.false_or]
theorem escTo_at (r : Int) (fl : List Int) (l : List Bool) : ∀ i, i ≤ l.length → ∀ j, (escTo r fl l i).getD j false = (l.getD j false || (decide (j < i) && (decide (1 + r ≤ (j : Int)) && decide (fl.getD j 0 = -1))))
 | 0, _, j => by simp [escTo]
 | i + 1, hi, j => by
  have ih := escTo_at r fl l i (by omega) j
  have hl := escTo_length r fl l i
  unfold escTo
  by_cases hc : 1 + r ≤ (i : Int) ∧ fl.getD i 0 = -1 ∧ l.getD i false = false
  ·rw [if_pos hc, getD_setB _ _ _ (by omega), ih]
   by_cases hj : j = i
   ·subst hj
    rw [decide_eq_true (show j < j + 1 by omega), decide_eq_true hc.1, decide_eq_true hc.2.1]
    simp
   ·rw [decide_eq_false hj, Bool.false_or, show decide (j < i + 1) = decide (j < i) by rw [decide_eq_decide]; omega]
  ·rw [if_neg hc, ih]
   by_cases hj : j = i
   ·subst hj
    rw [decide_eq_false (show ¬ j < j by omega), decide_eq_true (show j < j + 1 by omega)]
    cases hb : l.getD j false with
    | true => simp
    | false =>
     simp only [Bool.false_and, Bool.or_false, Bool.true_and, Bool.false_or]
     by_cases h1 : 1 + r ≤ (j : Int)
     ·by_cases h2 : fl.getD j 0 = -1
      ·exact absurd ⟨h1, h2, hb⟩ hc
      ·rw [decide_eq_false h2, Bool.and_false]
     ·rw [decide_eq_false h1, Bool.false_and]
   ·rw [show decide (j < i + 1) = decide (j < i) by rw [decide_eq_decide]; omega]
theorem escTo_self (r : Int) (fl : List Int) (l : List Bool) : ∀ i k, i ≤ k → k ≤ l.length → (escTo r fl l i).getD k false = l.getD k false := by
 intro i k hik hk
 rw [escTo_at r fl l i (by omega) k, decide_eq_false (by omega)]
 simp
theorem count_set (l : List Bool) : ∀ (i : Nat), i < l.length → l.getD i false = false → (l.set i true).count true = l.count true + 1 := by
 induction l with
 | nil => intro i hi; simp at hi
 | cons b l ih =>
  intro i hi hb
  cases i with
  | zero =>
   obtain rfl : b = false := by simpa using hb
   simp
  | succ i =>
   have := ih i (by simpa using hi) (by simpa using hb)
   simp only [List.set_cons_succ, List.count_cons, this]
   omega
theorem count_new (r : Int) (fl : List Int) (l : List Bool) : ∀ i, i ≤ l.length → (escTo r fl l i).count true = l.count true + newTo r fl l i
 | 0, _ => rfl
 | i + 1, hi => by
  have ih := count_new r fl l i (by omega)
  have hl := escTo_length r fl l i
  unfold escTo newTo
  split
  ·rename_i hc
   rw [count_set _ i (by omega) (by rw [escTo_self r fl l i i (Nat.le_refl _) (by omega)]; exact hc.2.2), ih]
   omega
  ·exact ih
theorem new_zero (r : Int) (fl : List Int) (l : List Bool) : ∀ i, newTo r fl l i = 0 → escTo r fl l i = l
 | 0, _ => rfl
 | i + 1, h => by
  unfold newTo at h
  unfold escTo
  split at h
  ·omega
  ·rename_i hc
   rw [if_neg hc]
   exact new_zero r fl l i h
theorem new_le (r : Int) (fl : List Int) (l : List Bool) : ∀ i, newTo r fl l i ≤ i
 | 0 => Nat.le_refl _
 | i + 1 => by
  have := new_le r fl l i
  unfold newTo
  split <;> omega
def rootsTo (l : List Bool) : Nat → List Int
 | 0 => [0]
 | i + 1 => if l.getD i false then rootsTo l i ++ [(i : Int)] else rootsTo l i
abbrev rootsB (l : List Bool) : List Int := rootsTo l l.length
theorem mem_roots (l : List Bool) (x : Int) : ∀ i, x ∈ rootsTo l i ↔ x = 0 ∨ ∃ j : Nat, j < i ∧ l.getD j false = true ∧ x = j
 | 0 => by simp [rootsTo]
 | i + 1 => by
  have ih := mem_roots l x i
  unfold rootsTo
  split
  ·rename_i hb
   rw [List.mem_append, ih, List.mem_singleton]
   constructor
   ·rintro ((h | ⟨j, hj, h⟩) | h)
    ·exact .inl h
    ·exact .inr ⟨j, by omega, h⟩
    ·exact .inr ⟨i, by omega, hb, h⟩
   ·rintro (h | ⟨j, hj, h⟩)
    ·exact .inl (.inl h)
    ·by_cases hji : j = i
     ·subst hji; exact .inr h.2
     ·exact .inl (.inr ⟨j, by omega, h⟩)
  ·rename_i hb
   rw [ih]
   constructor
   ·rintro (h | ⟨j, hj, h⟩)
    ·exact .inl h
    ·exact .inr ⟨j, by omega, h⟩
   ·rintro (h | ⟨j, hj, h⟩)
    ·exact .inl h
    ·by_cases hji : j = i
     ·subst hji; exact absurd h.1 hb
     ·exact .inr ⟨j, by omega, h⟩
theorem roots_length (l : List Bool) : ∀ i, (rootsTo l i).length ≤ i + 1
 | 0 => by simp [rootsTo]
 | i + 1 => by
  have := roots_length l i
  unfold rootsTo
  split <;> simp <;> omega
structure HeapIs (n : Nat) (r : Int) (E : List Edg) (rs : List (List Int)) (esc : List Bool) (h : List Int) : Prop where
 len : esc.length = n
 frm : IsFrom n E (rootsB esc) h
 res : ∀ fl ∈ rs, ∀ j : Nat, j < n → 1 + r ≤ (j : Int) → fl.getD j 0 = -1 → esc.getD j false = true
 own : ∀ j : Nat, j < n → 1 + r ≤ (j : Int) → h.getD j 0 = -1 → esc.getD j false = true
 low : ∀ S : Nat → Prop, (∀ fl ∈ rs, ∀ j : Nat, j < n → 1 + r ≤ (j : Int) → fl.getD j 0 = -1 → S j) → (∀ (l : List Bool) (g : List Int), l.length = n → (∀ j, l.getD j false = true → S j) → IsFrom n E (rootsB l) g → ∀ j : Nat, j < n → 1 + r ≤ (j : Int) → g.getD j 0 = -1 → S j) → ∀ j, esc.getD j false = true → S j
structure EscIs (n : Nat) (r : Int) (E : List Edg) (rs : List (List Int)) (m : Nat) (l : List Bool) : Prop where
 len : l.length = n
 res : ∀ i, i < m → ∀ j : Nat, j < n → 1 + r ≤ (j : Int) → (rs.getD i []).getD j 0 = -1 → l.getD j false = true
 low : ∀ S : Nat → Prop, (∀ fl ∈ rs, ∀ j : Nat, j < n → 1 + r ≤ (j : Int) → fl.getD j 0 = -1 → S j) → (∀ (l : List Bool) (g : List Int), l.length = n → (∀ j, l.getD j false = true → S j) → IsFrom n E (rootsB l) g → ∀ j : Nat, j < n → 1 + r ≤ (j : Int) → g.getD j 0 = -1 → S j) → ∀ j, l.getD j false = true → S j
theorem EscIs.start (n : Nat) (r : Int) (E : List Edg) (rs : List (List Int)) : EscIs n r E rs 0 (List.replicate n false) := by
 refine ⟨by simp, fun i hi => absurd hi (by omega), fun S _ _ j hj => ?_⟩
 rw [List.getD_eq_getElem?_getD, List.getElem?_replicate] at hj
 split at hj <;> simp at hj
theorem escTo_true {r : Int} {fl : List Int} {l : List Bool} {j : Nat} (h : (escTo r fl l l.length).getD j false = true) : l.getD j false = true ∨ (j < l.length ∧ 1 + r ≤ (j : Int) ∧ fl.getD j 0 = -1) := by
 rw [escTo_at r fl l _ (Nat.le_refl _) j, Bool.or_eq_true, Bool.and_eq_true, Bool.and_eq_true, decide_eq_true_eq, decide_eq_true_eq, decide_eq_true_eq] at h
 exact h
theorem true_escTo {r : Int} {fl : List Int} {l : List Bool} {j : Nat} (h : l.getD j false = true ∨ (j < l.length ∧ 1 + r ≤ (j : Int) ∧ fl.getD j 0 = -1)) : (escTo r fl l l.length).getD j false = true := by
 rw [escTo_at r fl l _ (Nat.le_refl _) j, Bool.or_eq_true, Bool.and_eq_true, Bool.and_eq_true, decide_eq_true_eq, decide_eq_true_eq, decide_eq_true_eq]
 exact h
theorem EscIs.result {n : Nat} {r : Int} {E : List Edg} {rs : List (List Int)} {m : Nat} {l : List Bool} (h : EscIs n r E rs m l) (hm : m < rs.length) : EscIs n r E rs (m + 1) (escTo r (rs.getD m []) l n) := by
 have hl := h.len
 subst hl
 refine ⟨escTo_length _ _ _ _, fun i hi j hj h1 h2 => true_escTo ?_, fun S h1 h2 j hj => ?_⟩
 ·by_cases him : i = m
  ·subst him; exact .inr ⟨hj, h1, h2⟩
  ·exact .inl (h.res i (by omega) j hj h1 h2)
 ·rcases escTo_true hj with hj | ⟨hj, h3, h4⟩
  ·exact h.low S h1 h2 j hj
  ·exact h1 _ (by rw [List.getD_eq_getElem?_getD, List.getElem?_eq_getElem hm]; exact List.getElem_mem hm) j hj h3 h4
theorem EscIs.more {n : Nat} {r : Int} {E : List Edg} {rs : List (List Int)} {m : Nat} {l : List Bool} {g : List Int} (h : EscIs n r E rs m l) (hg : IsFrom n E (rootsB l) g) : EscIs n r E rs m (escTo r g l n) := by
 have hl := h.len
 subst hl
 refine ⟨escTo_length _ _ _ _, fun i hi j hj h1 h2 => true_escTo (.inl (h.res i hi j hj h1 h2)), fun S h1 h2 j hj => ?_⟩
 rcases escTo_true hj with hj | ⟨hj, h3, h4⟩
 ·exact h.low S h1 h2 j hj
 ·exact h2 l g rfl (fun j hj => h.low S h1 h2 j hj) hg j hj h3 h4
theorem EscIs.done {n : Nat} {r : Int} {E : List Edg} {rs : List (List Int)} {l : List Bool} {g : List Int} (h : EscIs n r E rs rs.length l) (hg : IsFrom n E (rootsB l) g) (h0 : newTo r g l n = 0) : HeapIs n r E rs l g := by
 have hs := new_zero r g l n h0
 refine ⟨h.len, hg, fun fl hfl j hj h1 h2 => ?_, fun j hj h1 h2 => ?_, h.low⟩
 ·obtain ⟨i, hi, rfl⟩ := List.getElem_of_mem hfl
  refine h.res i hi j hj h1 ?_
  rw [List.getD_eq_getElem?_getD (l := rs), List.getElem?_eq_getElem hi]; exact h2
 ·have hl := h.len
  rw [← hl] at hs hj
  rw [← hs]
  exact true_escTo (.inr ⟨hj, h1, h2⟩)
theorem HeapIs.mono {n n' : Nat} {r : Int} {E E' : List Edg} {rs rs' : List (List Int)} {esc esc' : List Bool} {h h' : List Int} (a : HeapIs n r E rs esc h) (b : HeapIs n' r E' rs' esc' h') (hn : n ≤ n') (hE : ∀ e ∈ E, okE n e) (hE' : ∀ e ∈ E', okE n' e) (hs : ∀ e ∈ E, ∃ e' ∈ E', e'.f0 = e.f0 ∧ e'.f1 = e.f1 ∧ e'.f2 ≤ e.f2)
  (hr : ∀ fl ∈ rs, ∃ fl' ∈ rs', ∀ j : Nat, j < n → fl.getD j 0 = -1 → fl'.getD j 0 = -1) : (∀ j, esc.getD j false = true → esc'.getD j false = true) := by
 refine a.low (fun j => esc'.getD j false = true) (fun fl hfl j hj h1 h2 => ?_) (fun l g hl hS hg j hj h1 h2 => ?_)
 ·obtain ⟨fl', hfl', h3⟩ := hr fl hfl
  exact b.res fl' hfl' j (by omega) h1 (h3 j hj h2)
 ·refine b.own j (by omega) h1 ?_
  have hR : ∀ r ∈ rootsB l, r ∈ rootsB esc' := by
   intro x hx
   rcases (mem_roots l x _).1 hx with h0 | ⟨k, hk, hk2, h0⟩
   ·exact (mem_roots esc' x _).2 (.inl h0)
   ·exact (mem_roots esc' x _).2 (.inr ⟨k, by rw [b.len]; omega, hS k hk2, h0⟩)
  have hm := hg.mono b.frm hR hE hE' hs j
  have hi := b.frm.clo.inw j
  have e1 : ∀ (l : List Int) (n : Nat), l.length = n → j < n → l.getD j 9 = l.getD j 0 := fun l n hl hj => by
   rw [List.getD_eq_getElem?_getD, List.getD_eq_getElem?_getD, List.getElem?_eq_getElem (by omega)]; rfl
  rw [e1 g n hg.len hj] at hm
  rw [e1 h' n' b.frm.len (by omega)] at hm
  have hi' : InW (h'.getD j 9) := hi
  rw [e1 h' n' b.frm.len (by omega)] at hi'
  unfold InW at hi'
  omega
open Go.RowKit Go.Maps Go.Proofs.YtcbcacbbnojdjaaGreatDoorW.PrintWords Go.Proofs.YtcbcacbbnojdjaaGreatDoorW.PrintLast Go.Proofs.YtcbcacbbnojdjaaGreatDoor.PSolveFunctions
def NetAt (w : World) (g n : Nat) (r : Int) (Ae : Option Addr) (E : List Edg) (ce : Nat) : Prop := w.heap[g]? = some (.cells #[.int .i64 n, .int .i64 r, .slice Ae E.length ce] 89 (0, 0))
def BoolsAt (w : World) (b : Nat) (l : List Bool) : Prop := w.heap[b]? = some (.cells (l.map Value.bool).toArray 4 (0, 0))
theorem BoolsAt.at_ {w : World} {b : Nat} {l : List Bool} (h : BoolsAt w b l) {i : Nat} (hi : i < l.length) : w.cell? ⟨b, i, none⟩ = some (.bool (l.getD i false)) := by
 rw [blk_cell h i]
 simp [List.getElem?_eq_getElem hi, List.getD_eq_getElem?_getD]
theorem BoolsAt.far {w w1 : World} {b : Nat} {l : List Bool} (h : BoolsAt w b l) (hb : w1.heap[b]? = w.heap[b]?) : BoolsAt w1 b l := hb.trans h
theorem BoolsAt.set {w : World} {b : Nat} {l : List Bool} (h : BoolsAt w b l) (i : Nat) (v : Bool) : BoolsAt (w.setCell ⟨b, i, none⟩ (.bool v)) b (l.set i v) := by
 refine blk_put h i _ ?_
 simp [List.map_set]
set_option maxRecDepth 100000 in
set_option maxHeartbeats 3200000 in
theorem fewest_any (g n : Nat) (r : Int) (Ae : Option Addr) (ce : Nat) (E : List Edg) (Ar : Option Addr) (cr : Nat) (R : List Int) (w : World) (hN : NetAt w g n r Ae E ce) (hE : k144.C w Ae E.length E) (hce : E.length ≤ ce) (hR : (Kd.int .i64).C w Ar R.length R) (hcr : R.length ≤ cr)
  (okE' : ∀ e ∈ E, okE n e) (okR : ∀ r ∈ R, 0 ≤ r ∧ r < n) (hn0 : 0 < n) (hn : n ≤ 1048576) (hle : E.length ≤ 2147483647) (hlr : R.length ≤ 2147483647) :
  Calls Tryz.prog 44 #[.pointer (some ⟨g, 0, none⟩), .slice Ar R.length cr] w fun e w' => ∃ v l, e = .returned v ∧ IsFrom n E R l ∧ (Kd.int .i64).R 3 w' w.heap.size (fun _ => True) v l ∧ Below w.heap.size w w' := by
 have HF := Lib.hid (from_any n Ae ce E Ar cr R w.drew (show k144.C w.drew Ae E.length E from hE) hce (show (Kd.int .i64).C w.drew Ar R.length R from hR) hcr okE' okR hn0 hn hle hlr)
 have c0 := blk_cell hN 0
 have c2 := blk_cell hN 2
 simp only [List.getElem?_toArray, List.getElem?_cons_succ, List.getElem?_cons_zero] at c0 c2
 have y0 := c0
 have y2 := c2
 clear hN hE hR okE' okR
 go_enter Tryz.func44, Tryz.ntmps44
 go_upto_region 1 with (fail)
 go_region_held3 (fun w' => w'.cell? ⟨g, 0, none⟩ = some (.int .i64 n) ∧ w'.cell? ⟨g, 2, none⟩ = some (.slice Ae E.length ce))
  (first | (go_keep; done) | exact ⟨k0, k2⟩)
  (first | (go_at_call 98; refine HF.out.mono ?_; rintro e w3 ⟨v, l, rfl, hl, hr, hb3⟩; have k0 := below_cells hb3 _ _ y0; have k2 := below_cells hb3 _ _ y2; have HB3 := Lib.hid hb3; have HL := Lib.hid hl; have HRR := Lib.hid hr; clear hb3 hl hr))
 go_wp2_with fail
 go_ret
 exact ⟨v, l, rfl, HL.out, HRR.out, (Below.trans (below_drew (Below.refl _ _)) HB3.out : Below w.heap.size w w3)⟩
set_option maxRecDepth 100000 in
set_option maxHeartbeats 6400000 in
theorem escapes_any (g n : Nat) (r : Int) (Ae : Option Addr) (ce : Nat) (E : List Edg) (b : Nat) (l : List Bool) (Af : Option Addr) (cf : Nat) (fl : List Int) (w : World) (hN : NetAt w g n r Ae E ce) (hl : BoolsAt w b l) (hln : l.length = n) (hfn : fl.length = n) (hf : ∀ w', Kept b w w' → (Kd.int .i64).C w' Af n fl)
  (hn : n ≤ 1048576) (hr : 0 ≤ r ∧ r ≤ 4) (hrn : 1 + r ≤ n) :
  Calls Tryz.prog 99 #[.pointer (some ⟨g, 0, none⟩), .slice (some ⟨b, 0, none⟩) n n, .slice Af n cf] w fun e w' => e = .returned (.int .i64 (newTo r fl l n)) ∧ BoolsAt w' b (escTo r fl l n) ∧ Kept b w w' := by
 have HN := Lib.hid hN
 have HL := Lib.hid hl
 have HFL := Lib.hid hf
 have hgb : g ≠ b := by
  rintro rfl
  have h1 : w.heap[g]? = _ := hl
  rw [hN] at h1
  injection h1 with h1
  injection h1 with _ h1 _
  exact absurd h1 (by decide)
 have c1 := blk_cell hN 1
 simp only [List.getElem?_toArray, List.getElem?_cons_succ, List.getElem?_cons_zero] at c1
 clear hN hl hf
 obtain ⟨r', rfl⟩ : ∃ r' : Nat, r = (r' : Int) := ⟨r.toNat, by omega⟩
 go_enter Tryz.func99, Tryz.ntmps99
 go_wp2_with fail
 clear c1
 have h0 : escTo r' fl l (1 + r') = l ∧ newTo r' fl l (1 + r') = 0 := by
  have : ∀ i : Nat, i ≤ 1 + r' → escTo r' fl l i = l ∧ newTo r' fl l i = 0 := by
   intro i
   induction i with
   | zero => exact fun _ => ⟨rfl, rfl⟩
   | succ i ih =>
    intro hi
    obtain ⟨h1, h2⟩ := ih (by omega)
    unfold escTo newTo
    rw [if_neg (by omega), if_neg (by omega)]
    exact ⟨h1, h2⟩
  exact this _ (Nat.le_refl _)
 have H0 := Lib.hid h0
 clear h0
 go_loopw [7, 8] (fun c i wr => ∃ j : Nat, 1 + r' ≤ j ∧ j ≤ n ∧ i = .int .i64 j ∧ c = .int .i64 (newTo r' fl l j) ∧ BoolsAt wr b (escTo r' fl l j) ∧ Kept b w wr) (fun c i _ => n - (intOf i).toNat)
 case atStart => exact ⟨1 + r', Nat.le_refl _, by omega, by push_cast; rfl, by rw [H0.out.2]; rfl, by rw [H0.out.1]; exact HL.out, Kept.of_below (Below.refl _ _)⟩
 case round =>
  obtain ⟨j, hj1, hjn, rfl, rfl, hB, hK⟩ := hrel
  have hNr : NetAt wr g n r' Ae E ce := (hK.block g (blk_lt HN.out) hgb).trans HN.out
  have c0 := blk_cell hNr 0
  have c1 := blk_cell hNr 1
  simp only [List.getElem?_toArray, List.getElem?_cons_succ, List.getElem?_cons_zero] at c0 c1
  have hnl := new_le r' fl l j
  have HBr := Lib.hid hB
  have HKr := Lib.hid hK
  clear hNr hB hK
  by_cases hlt : j < n
  ·obtain ⟨ad, hA, hv⟩ := Kd.at_int (HFL.out wr HKr.out) (j : Int) (by omega) (by omega)
   have hrd : rd fl (j : Int) = fl.getD j 0 := by unfold rd; rw [Int.toNat_natCast]
   rw [hrd, Int.toNat_natCast] at hv
   have he := HBr.out.at_ (i := j) (by rw [escTo_length]; omega)
   rw [escTo_self r' fl l j j (Nat.le_refl _) (by omega)] at he
   have z := blk_frozen HBr.out j
   obtain ⟨d, hd⟩ : ∃ d, d = fl.getD j 0 := ⟨_, rfl⟩
   obtain ⟨eb, heb⟩ : ∃ eb, eb = l.getD j false := ⟨_, rfl⟩
   rw [← hd] at hv
   rw [← heb] at he
   have HS := Lib.hid (show escTo r' fl l (j + 1) = if d = -1 ∧ eb = false then (escTo r' fl l j).set j true else escTo r' fl l j by
    rw [hd, heb]
    conv => lhs; unfold escTo
    by_cases hc : fl.getD j 0 = -1 ∧ l.getD j false = false
    ·rw [if_pos ⟨by omega, hc⟩, if_pos hc]
    ·rw [if_neg (fun h => hc h.2), if_neg hc])
   have HW := Lib.hid (show newTo r' fl l (j + 1) = if d = -1 ∧ eb = false then newTo r' fl l j + 1 else newTo r' fl l j by
    rw [hd, heb]
    conv => lhs; unfold newTo
    by_cases hc : fl.getD j 0 = -1 ∧ l.getD j false = false
    ·rw [if_pos ⟨by omega, hc⟩, if_pos hc]
    ·rw [if_neg (fun h => hc h.2), if_neg hc])
   subst hA
   clear hrd hd heb
   by_cases h1 : d = -1
   ·have b1 : (d == -1) = true := by simpa using h1
    cases eb with
    | false =>
     have HS2 := Lib.hid (HS.out.trans (if_pos ⟨h1, rfl⟩))
     have HW2 := Lib.hid (HW.out.trans (if_pos ⟨h1, rfl⟩))
     clear h1
     go_wp2_with fail
     go_roundw
     case rel => exact ⟨j + 1, by omega, by omega, by go_num, by rw [HW2.out]; go_num, by rw [HS2.out]; exact HBr.out.set j true, HKr.out.trans (Kept.set _ _ _)⟩
     case measure => simp [intOf]; omega
    | true =>
     have HS2 := Lib.hid (HS.out.trans (if_neg (by simp)))
     have HW2 := Lib.hid (HW.out.trans (if_neg (by simp)))
     clear h1
     go_wp2_with fail
     go_roundw
     case rel => exact ⟨j + 1, by omega, by omega, by go_num, by rw [HW2.out], by rw [HS2.out]; exact HBr.out, HKr.out⟩
     case measure => simp [intOf]; omega
   ·have b1 : (d == -1) = false := by simpa using h1
    have HS2 := Lib.hid (HS.out.trans (if_neg (fun h => h1 h.1)))
    have HW2 := Lib.hid (HW.out.trans (if_neg (fun h => h1 h.1)))
    clear h1
    go_wp2_with fail
    go_roundw
    case rel => exact ⟨j + 1, by omega, by omega, by go_num, by rw [HW2.out], by rw [HS2.out]; exact HBr.out, HKr.out⟩
    case measure => simp [intOf]; omega
  ·obtain rfl : n = j := by omega
   go_wp2_with fail
   go_ret
   exact ⟨rfl, HBr.out, HKr.out⟩
theorem info_bool : (Tryz.prog.info? 4).map (fun i => (i.zero, i.size, i.bytes)) = some (some (.bool false), 1, 1) := by kernel_rfl
theorem made_bools (m : Nat) : madeCells #[Value.bool false] m = ((List.replicate m false).map Value.bool).toArray := by
 apply Array.toList_inj.1
 apply List.ext_getElem
 ·simp [madeCells]
 ·intro i h1 h2
  simp [madeCells, Nat.mod_one]
theorem root_row (W : World) (base : Nat) (hb : base ≤ W.heap.size) : (Kd.int .i64).R 3 (W.alloc (.cells #[.int .i64 0] 3)) base (fun _ => True) (.slice (some ⟨W.heap.size, 0, none⟩) 1 1) [0] := by
 refine ⟨fun _ _ => trivial, OwnRow.lit (ps := [(0 : Int)]) (inner := [.int .i64 0]) W base ⟨rfl, fun j q hq => ?_⟩ hb (by simp)⟩
 have hj := (List.getElem?_eq_some_iff.1 hq).1
 obtain rfl : j = 0 := by simp at hj; exact hj
 obtain rfl : (0 : Int) = q := by simpa using hq
 rfl
def heapPost (n : Nat) (r : Int) (E : List Edg) (rs : List (List Int)) (w : World) (e : Ending) (w' : World) : Prop :=
 ∃ b esc h vh, e = .returned (.tuple #[.slice (some ⟨b, 0, none⟩) n n, vh]) ∧ HeapIs n r E rs esc h ∧ w.heap.size ≤ b ∧ BoolsAt w' b esc ∧ (Kd.int .i64).R 3 w' w.heap.size (fun _ => True) vh h ∧ Below w.heap.size w w'
theorem R_kept_bools {w w' : World} {b base : Nat} {v : Value} {h : List Int} {l : List Bool} (hr : (Kd.int .i64).R 3 w base (fun _ => True) v h) (hb : BoolsAt w b l) (hk : Kept b w w') : (Kd.int .i64).R 3 w' base (fun _ => True) v h := by
 refine Kd.R_mono (Kd.R_move (Kd.R_bound hr) fun j hj => ?_) (fun _ _ => trivial)
 obtain ⟨_, _, hlt, q, hq, cells, hc⟩ := hj
 refine hk.block j hlt ?_
 rintro rfl
 have h1 : w.heap[j]? = _ := hb
 rw [hc] at h1
 injection h1 with h1
 injection h1 with _ h1 _
 subst h1
 rcases List.mem_cons.1 hq with h2 | h2
 ·exact absurd h2 (by decide)
 ·cases h2
theorem Rlow {w : World} {base base' : Nat} {v : Value} {h : List Int} (hr : (Kd.int .i64).R 3 w base (fun _ => True) v h) (hb : base' ≤ base) : (Kd.int .i64).R 3 w base' (fun _ => True) v h := Kd.R_lower hr hb
set_option maxRecDepth 100000 in
set_option maxHeartbeats 12800000 in
theorem heap_any (g n : Nat) (r : Int) (Ae : Option Addr) (ce : Nat) (E : List Edg) (Ar : Option Addr) (cr : Nat) (rs : List (List Int)) (w : World) (hN : NetAt w g n r Ae E ce) (hE : k144.C w Ae E.length E) (hce : E.length ≤ ce) (hR : (Kd.slice 3 (Kd.int .i64)).C w Ar rs.length rs) (hrl : ∀ l ∈ rs, l.length = n) (hrs : rs.length ≤ 4)
  (okE' : ∀ e ∈ E, okE n e) (hn : n ≤ 1048576) (hr : 0 ≤ r ∧ r ≤ 4) (hrn : 1 + r ≤ n) (hle : E.length ≤ 2147483647) :
  Calls Tryz.prog 45 #[.pointer (some ⟨g, 0, none⟩), .slice Ar rs.length cr] w (heapPost n r E rs w) := by
 have HN := Lib.hid hN
 have HE := Lib.hid hE
 have HR := Lib.hid hR
 have HRL := Lib.hid hrl
 have HOE := Lib.hid okE'
 have c0 := blk_cell hN 0
 simp only [List.getElem?_toArray, List.getElem?_cons_succ, List.getElem?_cons_zero] at c0
 have hmk := print_make_of 30 4 (.bool false) 1 Tryz.underlying30 info_bool rfl (by decide) n (by omega)
 have hgl := blk_lt hN
 clear hN hE hR hrl okE'
 go_enter Tryz.func45, Tryz.ntmps45
 go_upto_region 2 with (fail)
 have hb1 := below1 w (.cells (madeCells #[Value.bool false] n) 4)
 have hn1 : BoolsAt (w.alloc (.cells (madeCells #[Value.bool false] n) 4)) w.heap.size (List.replicate n false) := by rw [BoolsAt, made_bools]; exact heap_alloc_new w _
 obtain ⟨b, hb⟩ : ∃ b, w.heap.size = b := ⟨_, rfl⟩
 have HBB := Lib.hid hb
 rw [hb] at hb1 hn1 hgl ⊢
 clear hb c0 hmk
 generalize World.alloc _ _ = W1 at hb1 hn1 ⊢
 have HB1 := Lib.hid hb1
 have HBL := Lib.hid hn1
 clear hb1 hn1
 go_wp2_with fail
 go_loopw [20] (fun i wr => ∃ (j : Nat) (l : List Bool), j ≤ rs.length ∧ i = .int .i64 j ∧ EscIs n r E rs j l ∧ BoolsAt wr b l ∧ Below b w wr) (fun i _ => rs.length - (intOf i).toNat)
 case atStart => exact ⟨0, _, by omega, rfl, EscIs.start n r E rs, HBL.out, HB1.out⟩
 case round =>
  clear HB1 HBL
  obtain ⟨j, l, hj, rfl, hI, hL, hB⟩ := hrel
  have HI := Lib.hid hI
  have HL := Lib.hid hL
  have HBr := Lib.hid hB
  clear hI hL hB
  by_cases hlt : j < rs.length
  ·have hbw : Below w.heap.size w wr := HBB.out ▸ HBr.out
   obtain ⟨ad, A0, cc, hA, h0, hcc, hC⟩ := at_L1 (Kd.C_below HR.out hbw) (j : Int) (by omega) (by omega)
   obtain ⟨fl, hfl⟩ : ∃ fl, fl = rs.getD j [] := ⟨_, rfl⟩
   have hfl' : rd_L1 rs (j : Int) = fl := by rw [rd_L1, Int.toNat_natCast]; exact hfl.symm
   rw [hfl'] at h0 hcc hC
   rw [Int.toNat_natCast] at h0
   have hfn : fl.length = n := HRL.out fl (hfl ▸ (by rw [List.getD_eq_getElem?_getD, List.getElem?_eq_getElem hlt]; exact List.getElem_mem hlt))
   rw [hfn] at h0 hcc hC
   subst hA
   have HES := Lib.hid (escapes_any g n r Ae ce E b l A0 cc fl wr ((hbw.block _ (blk_lt HN.out)).trans HN.out) HL.out HI.out.len hfn (fun w' hk => by
    obtain ⟨_, A0', cc', hA', h0', _, hC'⟩ := at_L1 HR.out (j : Int) (by omega) (by omega)
    injection hA' with hA'
    subst hA'
    rw [hfl', Int.toNat_natCast] at h0'
    have hq := (below_cells hbw _ _ h0').symm.trans h0
    injection hq with hq
    obtain ⟨q0, _, _⟩ := Value.slice.inj hq
    subst q0
    rw [hfl', hfn] at hC'
    exact Kd.C_below hC' (hk.below hbw (Nat.le_refl _) (by rw [HBB.out]; exact Nat.le_refl _))) hn hr hrn)
   have HNX := Lib.hid (HI.out.result hlt)
   rw [← hfl] at HNX
   clear hfl hfl' hC hbw
   go_wp2_with fail
   refine HES.out.mono ?_
   rintro e w2 ⟨rfl, hl2, hk2⟩
   have HL2 := Lib.hid hl2
   have HB2 := Lib.hid (hk2.below HBr.out (by rw [← HBB.out]; exact Nat.le_refl _) (Nat.le_refl _))
   clear hl2 hk2
   go_wp2_with fail
   go_roundw
   case rel => exact ⟨j + 1, _, by omega, by go_num, HNX.out, HL2.out, HB2.out⟩
   case measure => simp [intOf]; omega
  ·obtain rfl : rs.length = j := by omega
   clear hlt hj
   go_wp2_with fail
   obtain ⟨w2, rfl⟩ : ∃ w2 : World, w2 = wr := ⟨_, rfl⟩
   go_loopg [9] (n - l.count true) (fun kq v9 w' => ∃ l' : List Bool, Hid (kq = n - l'.count true) ∧ Hid (EscIs n r E rs rs.length l') ∧ Hid (BoolsAt w' b l') ∧ Hid (Below b w w'))
   case atStart => exact ⟨l, Lib.hid rfl, HI, HL, HBr⟩
   case round =>
    clear HI HL HBr
    obtain ⟨l, HK0, HI, HL, HBr⟩ := hrel
    have hln := HI.out.len
    go_upto_region 8 with (fail)
    have hbs : b ≤ wr.heap.size := Nat.le_of_lt (blk_lt HL.out)
    have hb3 := below1 wr (.cells #[.int .i64 0] 3)
    have HRW := Lib.hid (root_row wr b hbs)
    have HL3 := Lib.hid (HL.out.far (hb3.block _ (blk_lt HL.out)))
    have HB3 := Lib.hid (HBr.out.trans (hb3.mono hbs))
    obtain ⟨rz, hrz⟩ : ∃ rz, wr.heap.size = rz := ⟨_, rfl⟩
    rw [hrz] at HRW ⊢
    clear hb3 hrz HL HBr
    generalize World.alloc _ _ = W3 at HRW HL3 HB3 ⊢
    go_wp2_with fail
    go_loopw [9, 32] (fun u i wq => ∃ j : Nat, j ≤ n ∧ i = .int .i64 j ∧ (Kd.int .i64).R 3 wq b (fun _ => True) u (rootsTo l j) ∧ BoolsAt wq b l ∧ Below b w wq) (fun u i _ => n - (intOf i).toNat)
    case atStart => exact ⟨0, by omega, rfl, HRW.out, HL3.out, HB3.out⟩
    case round =>
     clear HRW HL3 HB3
     obtain ⟨j, hj, rfl, hu, hL, hB⟩ := hrel
     have HU := Lib.hid hu
     have HL := Lib.hid hL
     have HBq := Lib.hid hB
     clear hu hL hB
     obtain ⟨Au, cu, hcu, hue⟩ : ∃ Au cu, (rootsTo l j).length ≤ cu ∧ _ = Value.slice Au (rootsTo l j).length cu := by
      obtain ⟨A', c', h1, h2⟩ := HU.out.2.slice_
      exact ⟨A', c', h2, h1⟩
     subst hue
     by_cases hlt : j < n
     ·have he := HL.out.at_ (i := j) (by omega)
      obtain ⟨eb, heb⟩ : ∃ eb, eb = l.getD j false := ⟨_, rfl⟩
      rw [← heb] at he
      have hrl := roots_length l j
      have HS := Lib.hid (show rootsTo l (j + 1) = if eb then rootsTo l j ++ [(j : Int)] else rootsTo l j by rw [heb]; rfl)
      clear heb
      cases eb with
      | true =>
       go_wp2_with (first | (at_builtin; refine Kd.R_append (Kd.int .i64) (w0 := w) (W := wr) b rfl (.tmp 38) (.tmp 40) 31 3 (.int .i64 0) 8 rfl Tryz.underlying31 info3 rfl (by decide) (by decide) (.slice Au (rootsTo l j).length cu) (rootsTo l j) (j : Int) [.int .i64 j] (fun _ => True) (fun _ => False) rfl rfl rfl (fun _ h => h.elim) (fun _ _ => trivial) HU.out HBq.out (Nat.le_of_lt (blk_lt HL.out)) (by omega) ?_; intro u1 w4 hr4 hb4 hg4 hat4; have HU4 := Lib.hid hr4; have HB4 := Lib.hid hb4; have HL4 := Lib.hid (HL.out.far (hg4.block b (blk_lt HL.out) (Kd.R_ne HU.out HL.out (by decide)))); clear hr4 hb4 hg4 hat4))
       go_roundw
       case rel => exact ⟨j + 1, by omega, by go_num, by rw [HS.out]; exact HU4.out, HL4.out, HB4.out⟩
       case measure => simp [intOf]; omega
      | false =>
       go_wp2_with fail
       go_roundw
       case rel => exact ⟨j + 1, by omega, by go_num, by rw [HS.out]; exact HU.out, HL.out, HBq.out⟩
       case measure => simp [intOf]; omega
     ·obtain rfl : n = j := by omega
      clear hlt hj
      have hbw : Below w.heap.size w wr := HBB.out ▸ HBq.out
      have hrl := roots_length l n
      have hCu : (Kd.int .i64).C wr Au (rootsTo l n).length (rootsTo l n) := (Kd.R_reads' HU.out).2.2
      have HFW := Lib.hid (fewest_any g n r Ae ce E Au cu (rootsTo l n) wr ((hbw.block _ (blk_lt HN.out)).trans HN.out) (Kd.C_below HE.out hbw) hce hCu hcu HOE.out (fun x hx => by
       rcases (mem_roots l x n).1 hx with h0 | ⟨k, hk, _, h0⟩ <;> omega) (by omega) hn hle (by omega))
      clear hCu hbw
      go_wp2_with fail
      refine HFW.out.mono ?_
      rintro e w5 ⟨vh, h, rfl, hfr, hrv, hb5⟩
      have hhl := hfr.len
      obtain ⟨Ah, ch, hhc, hve⟩ : ∃ Ah ch, h.length ≤ ch ∧ vh = Value.slice Ah h.length ch := by
       obtain ⟨A', c', h1, h2⟩ := hrv.2.slice_
       exact ⟨A', c', h2, h1⟩
      rw [hhl] at hve
      subst hve
      have HFR := Lib.hid (show IsFrom n E (rootsB l) h by unfold rootsB; rw [hln]; exact hfr)
      have HL5 := Lib.hid (HL.out.far (hb5.block _ (blk_lt HL.out)))
      have HB5 := Lib.hid (HBq.out.trans (hb5.mono (Nat.le_of_lt (blk_lt HL.out))))
      have HRV := Lib.hid (Rlow hrv (show w.heap.size ≤ wr.heap.size by rw [HBB.out]; exact Nat.le_of_lt (blk_lt HL.out)))
      clear hfr hrv hb5 HL HBq HU HFW
      have hbw : Below w.heap.size w w5 := HBB.out ▸ HB5.out
      have HES := Lib.hid (escapes_any g n r Ae ce E b l Ah ch h w5 ((hbw.block _ (blk_lt HN.out)).trans HN.out) HL5.out hln hhl (fun w' hk => by
       have := (Kd.R_reads' (R_kept_bools HRV.out HL5.out hk)).2.2
       rwa [hhl] at this) hn hr hrn)
      clear hbw
      go_wp2_with fail
      refine HES.out.mono ?_
      rintro e w6 ⟨rfl, hl6, hk6⟩
      have HL6 := Lib.hid hl6
      have HR6 := Lib.hid (R_kept_bools HRV.out HL5.out hk6)
      have HB6 := Lib.hid (hk6.below HB5.out (by rw [← HBB.out]; exact Nat.le_refl _) (Nat.le_refl _))
      clear hl6 hk6 HES HL5 HB5 HRV
      by_cases hz : newTo r h l n = 0
      ·have bz : (((newTo r h l n : Nat) : Int) == 0) = true := by simp [hz]
       have HD := Lib.hid (HI.out.done HFR.out hz)
       have HLX := Lib.hid (show BoolsAt w6 b l by have := HL6.out; rwa [new_zero r h l n hz] at this)
       clear hz
       go_wp2_with fail
       go_ret2
       exact ⟨b, l, h, _, rfl, HD.out, by rw [HBB.out]; exact Nat.le_refl _, HLX.out, HR6.out, HBB.out ▸ HB6.out⟩
      ·have bz : (((newTo r h l n : Nat) : Int) == 0) = false := by simp [hz]
       have hct := count_new r h l n (by omega)
       have hct2 : (escTo r h l n).count true ≤ n := by
        have := List.count_le_length (a := true) (l := escTo r h l n)
        rw [escTo_length, hln] at this
        exact this
       have HMX := Lib.hid (show n - (escTo r h l n).count true < n - l.count true by omega)
       clear hz hct hct2
       go_wp2_with fail
       go_roundg (n - (escTo r h l n).count true)
       case rel => exact ⟨escTo r h l n, Lib.hid rfl, Lib.hid (HI.out.more HFR.out), HL6, HB6⟩
       case measure => rw [HK0.out]; exact HMX.out
set_option maxRecDepth 100000 in
set_option maxHeartbeats 3200000 in
theorem nones_any (m : Nat) (w : World) (hm : m ≤ 1024) : Calls Tryz.prog 82 #[.int .i64 m] w fun e w' => e = .returned (.slice (some ⟨w.heap.size, 0, none⟩) m m) ∧ NumsAt w' w.heap.size (List.replicate m 9) ∧ Below w.heap.size w w' := by
 have hmk := print_make 31 3 .i64 8 Tryz.underlying31 info3 (by decide) m (by omega)
 go_enter Tryz.func82, Tryz.ntmps82
 go_upto_region 2 with (fail)
 have hb1 := below1 w (.cells (madeCells #[Value.int .i64 0] m) 3)
 have hn1 : NumsAt (w.alloc (.cells (madeCells #[Value.int .i64 0] m) 3)) w.heap.size (List.replicate m 0) := by rw [NumsAt, made_ints]; exact heap_alloc_new w _
 obtain ⟨b, hb⟩ : ∃ b, w.heap.size = b := ⟨_, rfl⟩
 rw [hb] at hb1 hn1 ⊢
 have HBB := Lib.hid hb
 clear hb hmk
 generalize World.alloc _ _ = W1 at hb1 hn1 ⊢
 have HB1 := Lib.hid hb1
 have HN1 := Lib.hid hn1
 clear hb1 hn1
 go_wp2_with fail
 go_loopw [9] (fun i wr => ∃ j : Nat, j ≤ m ∧ i = .int .i64 j ∧ NumsAt wr b (List.replicate j 9 ++ List.replicate (m - j) 0) ∧ Below b w wr) (fun i _ => m - (intOf i).toNat)
 case atStart => exact ⟨0, by omega, rfl, by simpa using HN1.out, HB1.out⟩
 case round =>
  clear HN1 HB1
  obtain ⟨j, hj, rfl, hW, hB⟩ := hrel
  have HW := Lib.hid hW
  have HBr := Lib.hid hB
  clear hW hB
  by_cases hlt : j < m
  ·have hc := HW.out.at_ (i := j) (by simp; omega)
   have z0 := blk_frozen HW.out j
   go_wp2_with fail
   go_roundw
   case rel => exact ⟨j + 1, by omega, by go_num, ffill m j hlt ▸ HW.out.set j 9, HBr.out.setCell (p := ⟨b, j, none⟩) (Nat.le_refl _) _⟩
   case measure => simp [intOf]; omega
  ·obtain rfl : m = j := by omega
   have hw2 := HW.out
   rw [Nat.sub_self, List.replicate_zero, List.append_nil] at hw2
   go_wp2_with fail
   go_ret
   rw [HBB.out]
   exact ⟨rfl, hw2, HBr.out⟩
abbrev hdr (r b : Nat) : Value := .slice (some ⟨b, 0, none⟩) r r
structure SumAt (W : World) (base hb ob r p : Nat) (bs : List Nat) (hs : List Int) (rows : List (List Int)) : Prop where
 hn : NumsAt W hb hs
 ho : W.heap[ob]? = some (.cells (bs.map (hdr r) ++ List.replicate (p - bs.length) (Value.slice none 0 0)).toArray 31 (0, 0))
 lb : bs.length = rows.length
 rw_ : ∀ i, i < rows.length → NumsAt W (bs.getD i 0) (rows.getD i [])
 nd : ∀ i j, i < bs.length → j < bs.length → bs.getD i 0 = bs.getD j 0 → i = j
 nh : ∀ i, i < bs.length → bs.getD i 0 ≠ hb
 l0 : base ≤ hb
 l1 : base ≤ ob
 l2 : ∀ i, i < bs.length → base ≤ bs.getD i 0
theorem hdrs_set (r p : Nat) (bs : List Nat) (b : Nat) (h : bs.length < p) : (bs.map (hdr r) ++ List.replicate (p - bs.length) (Value.slice none 0 0)).set bs.length (hdr r b) = (bs ++ [b]).map (hdr r) ++ List.replicate (p - (bs ++ [b]).length) (Value.slice none 0 0) := by
 obtain ⟨d, rfl⟩ : ∃ d, p = bs.length + (d + 1) := ⟨p - bs.length - 1, by omega⟩
 rw [show bs.length + (d + 1) - bs.length = d + 1 by omega, List.length_append, List.length_singleton, show bs.length + (d + 1) - (bs.length + 1) = d by omega, List.replicate_succ]
 rw [List.set_append_right _ _ (by simp)]
 simp
theorem SumAt.below {W W1 : World} {base hb ob r p : Nat} {bs : List Nat} {hs : List Int} {rows : List (List Int)} (h : SumAt W base hb ob r p bs hs rows) (hb1 : Below W.heap.size W W1) : SumAt W1 base hb ob r p bs hs rows :=
 ⟨h.hn.far (hb1.block _ (blk_lt h.hn)), (hb1.block _ (blk_lt h.ho)).trans h.ho, h.lb, fun i hi => (h.rw_ i hi).far (hb1.block _ (blk_lt (h.rw_ i hi))), h.nd, h.nh, h.l0, h.l1, h.l2⟩
theorem SumAt.more {W W1 : World} {base hb ob r p b : Nat} {bs : List Nat} {hs : List Int} {rows : List (List Int)} {row : List Int} (h : SumAt W base hb ob r p bs hs rows) (hb1 : Below W.heap.size W W1) (hn : NumsAt W1 b row) (hbl : W.heap.size ≤ b) (hl : bs.length < p) (hbase : base ≤ b) :
  SumAt (W1.setCell ⟨ob, bs.length, none⟩ (hdr r b)) base hb ob r p (bs ++ [b]) hs (rows ++ [row]) := by
 have h1 := h.below hb1
 have hne : ∀ {k : Nat} {l : List Int}, NumsAt W1 k l → k ≠ ob := by
  rintro k l hk rfl
  have h2 : W1.heap[k]? = _ := hk
  rw [h1.ho] at h2
  injection h2 with h2
  injection h2 with _ h2 _
  exact absurd h2 (by decide)
 have hat : ∀ i, i < bs.length → (bs ++ [b]).getD i 0 = bs.getD i 0 := fun i hi => by
  rw [List.getD_eq_getElem?_getD, List.getD_eq_getElem?_getD, List.getElem?_append_left hi]
 have hlast : (bs ++ [b]).getD bs.length 0 = b := by simp
 have hlt : ∀ i, i < bs.length → bs.getD i 0 < W.heap.size := fun i hi => blk_lt (h.rw_ i (by rw [← h.lb]; exact hi))
 refine ⟨h1.hn.far (Below.heap_setCell W1 ⟨ob, bs.length, none⟩ _ hb (hne h1.hn)), ?_, by simp [h.lb], fun i hi => ?_, fun i j hi hj he => ?_, fun i hi => ?_, h.l0, h.l1, fun i hi => ?_⟩
 ·refine blk_put h1.ho bs.length _ ?_
  rw [List.setIfInBounds_toArray, hdrs_set r p bs b hl]
 ·rw [List.length_append, List.length_singleton] at hi
  by_cases hil : i < rows.length
  ·rw [hat i (by rw [h.lb]; exact hil), show (rows ++ [row]).getD i [] = rows.getD i [] by rw [List.getD_eq_getElem?_getD, List.getD_eq_getElem?_getD, List.getElem?_append_left hil]]
   exact (h1.rw_ i hil).far (Below.heap_setCell W1 ⟨ob, bs.length, none⟩ _ _ (hne (h1.rw_ i hil)))
  ·obtain rfl : i = rows.length := by omega
   rw [show (rows ++ [row]).getD rows.length [] = row by simp, ← h.lb, hlast]
   exact hn.far (Below.heap_setCell W1 ⟨ob, bs.length, none⟩ _ _ (hne hn))
 ·rw [List.length_append, List.length_singleton] at hi hj
  by_cases h2 : i < bs.length
  ·by_cases h3 : j < bs.length
   ·rw [hat i h2, hat j h3] at he
    exact h.nd i j h2 h3 he
   ·obtain rfl : j = bs.length := by omega
    rw [hat i h2, hlast] at he
    have := hlt i h2
    omega
  ·obtain rfl : i = bs.length := by omega
   by_cases h3 : j < bs.length
   ·rw [hat j h3, hlast] at he
    have := hlt j h3
    omega
   ·omega
 ·rw [List.length_append, List.length_singleton] at hi
  by_cases h2 : i < bs.length
  ·rw [hat i h2]; exact h.nh i h2
  ·obtain rfl : i = bs.length := by omega
   rw [hlast]
   have := blk_lt h.hn
   omega
 ·rw [List.length_append, List.length_singleton] at hi
  by_cases h2 : i < bs.length
  ·rw [hat i h2]; exact h.l2 i h2
  ·obtain rfl : i = bs.length := by omega
   rw [hlast]; exact hbase
theorem SumAt.far {W : World} {base hb ob r p k : Nat} {bs : List Nat} {hs : List Int} {rows : List (List Int)} (h : SumAt W base hb ob r p bs hs rows) (hk : k < base) (i : Nat) (u : Value) : SumAt (W.setCell ⟨k, i, none⟩ u) base hb ob r p bs hs rows := by
 have hf : ∀ j, base ≤ j → (W.setCell ⟨k, i, none⟩ u).heap[j]? = W.heap[j]? := fun j hj => Below.heap_setCell W ⟨k, i, none⟩ u j (by show j ≠ k; omega)
 exact ⟨h.hn.far (hf _ h.l0), (hf _ h.l1).trans h.ho, h.lb, fun j hj => (h.rw_ j hj).far (hf _ (h.l2 j (by rw [h.lb]; exact hj))), h.nd, h.nh, h.l0, h.l1, h.l2⟩
theorem SumAt.low {W : World} {base base' hb ob r p : Nat} {bs : List Nat} {hs : List Int} {rows : List (List Int)} (h : SumAt W base hb ob r p bs hs rows) (hle : base' ≤ base) : SumAt W base' hb ob r p bs hs rows :=
 ⟨h.hn, h.ho, h.lb, h.rw_, h.nd, h.nh, Nat.le_trans hle h.l0, Nat.le_trans hle h.l1, fun i hi => Nat.le_trans hle (h.l2 i hi)⟩
def lowPost (p r : Nat) (w : World) (e : Ending) (w' : World) : Prop :=
 ∃ hb ob bs, e = .returned (.agg #[.slice (some ⟨hb, 0, none⟩) p p, .slice (some ⟨ob, 0, none⟩) p p]) ∧ SumAt w' w.heap.size hb ob r p bs (List.replicate p 9) (List.replicate p (List.replicate r 9)) ∧ Below w.heap.size w w'
theorem kept_at {X w3 : World} {k : Nat} {o : Obj} (hb : Below X.heap.size X w3) (h : X.heap[k]? = some o) : w3.heap[k]? = some o := (hb.block k (Array.getElem?_eq_some_iff.1 h).1).trans h
theorem alloc_first (w : World) (cs : Array Value) (t : TypeId) (o : Obj) : ((w.alloc (.cells cs t)).alloc o).heap[w.heap.size]? = some (.cells cs t (0, 0)) := ((below1 _ _).block _ (by simp)).trans (alloc_new w _)
theorem alloc_second (w : World) (o : Obj) (cs : Array Value) (t : TypeId) : ((w.alloc o).alloc (.cells cs t)).heap[w.heap.size + 1]? = some (.cells cs t (0, 0)) := by
 have := alloc_new (w.alloc o) (.cells cs t)
 simpa using this
abbrev nilRows (p : Nat) : Obj := .cells (madeCells #[Value.slice none 0 0] p) 31
abbrev nilSum : Obj := .cells #[.slice none 0 0, .slice none 0 0] 34
abbrev sumObj (p hb ob : Nat) : Obj := .cells #[.slice (some ⟨hb, 0, none⟩) p p, .slice (some ⟨ob, 0, none⟩) p p] 34
def LowAt (N r p : Nat) (W2 : World) (s3 : Value) (wc : World) : Prop := ∃ sb hb ob, s3 = .pointer (some ⟨sb, 0, none⟩) ∧ wc.heap[sb]? = some (.cells #[hdr p hb, hdr p ob] 34 (0, 0)) ∧ SumAt wc W2.heap.size hb ob r p [] (List.replicate p 9) [] ∧ Below W2.heap.size W2 wc
theorem low_mk {N r p : Nat} {W2 wc : World} (sb hb ob : Nat) (h1 : wc.heap[sb]? = some (.cells #[hdr p hb, hdr p ob] 34 (0, 0))) (hn : NumsAt wc hb (List.replicate p 9)) (ho : wc.heap[ob]? = some (.cells (madeCells #[Value.slice none 0 0] p) 31 (0, 0))) (hB : Below W2.heap.size W2 wc) (hN : N ≤ W2.heap.size) (h2 : W2.heap.size ≤ hb) (h3 : W2.heap.size ≤ ob) : LowAt N r p W2 (.pointer (some ⟨sb, 0, none⟩)) wc := by
 refine ⟨sb, hb, ob, rfl, h1, ⟨hn, ?_, rfl, fun i hi => absurd hi (by simp), fun i j hi => absurd hi (by simp), fun i hi => absurd hi (by simp), by omega, by omega, fun i hi => absurd hi (by simp)⟩, hB⟩
 rw [made_rows] at ho
 simpa using ho
theorem nums_alloc {w : World} {b : Nat} {l : List Int} (h : NumsAt w b l) (o : Obj) : NumsAt (w.alloc o) b l := h.far (Below.heap_alloc w o b (blk_lt h))
theorem low1 {N r p : Nat} {W2 w3 : World} (hN : N ≤ W2.heap.size) (hn : NumsAt w3 W2.heap.size (List.replicate p 9)) (hb : Below W2.heap.size W2 w3) : LowAt N r p W2 (.pointer (some ⟨w3.heap.size + 1, 0, none⟩)) ((w3.alloc (nilRows p)).alloc (sumObj p W2.heap.size w3.heap.size)) :=
 low_mk _ _ _ (alloc_second _ _ _ _) (nums_alloc (nums_alloc hn _) _) (alloc_first _ _ _ _) ((hb.alloc hb.size _).alloc (by have := hb.size; simp; omega) _) hN (Nat.le_refl _) hb.size
theorem low2 {N r p : Nat} {W2 w3 : World} (hN : N ≤ W2.heap.size) (hn : NumsAt w3 W2.heap.size (List.replicate p 9)) (hb : Below W2.heap.size W2 w3) : LowAt N r p W2 (.pointer (some ⟨w3.heap.size, 0, none⟩)) ((w3.alloc (sumObj p W2.heap.size (w3.heap.size + 1))).alloc (nilRows p)) :=
 low_mk _ _ _ (alloc_first _ _ _ _) (nums_alloc (nums_alloc hn _) _) (alloc_second _ _ _ _) ((hb.alloc hb.size _).alloc (by have := hb.size; simp; omega) _) hN (Nat.le_refl _) (by have := hb.size; omega)
theorem low3 {N r p : Nat} {W2 w3 : World} (hN : N ≤ W2.heap.size) (hn : NumsAt w3 (W2.heap.size + 1) (List.replicate p 9)) (hb : Below (W2.heap.size + 1) (W2.alloc (nilRows p)) w3) : LowAt N r p W2 (.pointer (some ⟨w3.heap.size, 0, none⟩)) (w3.alloc (sumObj p (W2.heap.size + 1) W2.heap.size)) := by
 have h0 : Below W2.heap.size W2 w3 := (below1 W2 _).trans (hb.mono (by omega))
 exact low_mk _ _ _ (alloc_new _ _) (nums_alloc hn _) ((Below.heap_alloc _ _ _ (by have := hb.size; simp at this; omega)).trans ((hb.block _ (by omega)).trans (alloc_new W2 _))) (h0.alloc h0.size _) hN (by omega) (Nat.le_refl _)
theorem low_sets {p : Nat} {W2 w3 : World} (sb hb ob : Nat) (hs : w3.heap[sb]? = some (.cells #[.slice none 0 0, .slice none 0 0] 34 (0, 0))) (hn : NumsAt w3 hb (List.replicate p 9)) (hB : Below W2.heap.size W2 w3) (h1 : W2.heap.size ≤ sb) :
  ((w3.setCell ⟨sb, 0, none⟩ (hdr p hb)).setCell ⟨sb, 1, none⟩ (hdr p ob)).heap[sb]? = some (.cells #[hdr p hb, hdr p ob] 34 (0, 0)) ∧ NumsAt ((w3.setCell ⟨sb, 0, none⟩ (hdr p hb)).setCell ⟨sb, 1, none⟩ (hdr p ob)) hb (List.replicate p 9) ∧ (∀ k o, k ≠ sb → w3.heap[k]? = o → ((w3.setCell ⟨sb, 0, none⟩ (hdr p hb)).setCell ⟨sb, 1, none⟩ (hdr p ob)).heap[k]? = o) ∧ Below W2.heap.size W2 ((w3.setCell ⟨sb, 0, none⟩ (hdr p hb)).setCell ⟨sb, 1, none⟩ (hdr p ob)) := by
 have hfar : ∀ k o, k ≠ sb → w3.heap[k]? = o → ((w3.setCell ⟨sb, 0, none⟩ (hdr p hb)).setCell ⟨sb, 1, none⟩ (hdr p ob)).heap[k]? = o := fun k o hk h => (Below.heap_setCell _ ⟨sb, 1, none⟩ _ k hk).trans ((Below.heap_setCell _ ⟨sb, 0, none⟩ _ k hk).trans h)
 refine ⟨blk_put (blk_put hs 0 _ rfl) 1 _ rfl, hfar _ _ ?_ hn, hfar, (hB.setCell (p := ⟨sb, 0, none⟩) h1 _).setCell (p := ⟨sb, 1, none⟩) h1 _⟩
 rintro rfl
 have h2 : w3.heap[hb]? = _ := hn
 rw [hs] at h2
 injection h2 with h2
 injection h2 with _ h2 _
 exact absurd h2 (by decide)
theorem low4 {N r p : Nat} {W2 w3 : World} (hN : N ≤ W2.heap.size) (hn : NumsAt w3 (W2.heap.size + 1 + 1) (List.replicate p 9)) (hb : Below (W2.heap.size + 1 + 1) ((W2.alloc (nilRows p)).alloc nilSum) w3) : LowAt N r p W2 (.pointer (some ⟨W2.heap.size + 1, 0, none⟩)) ((w3.setCell ⟨W2.heap.size + 1, 0, none⟩ (hdr p (W2.heap.size + 1 + 1))).setCell ⟨W2.heap.size + 1, 1, none⟩ (hdr p W2.heap.size)) := by
 have h0 : Below W2.heap.size W2 w3 := ((below1 W2 _).alloc (by simp) _).trans (hb.mono (by omega))
 obtain ⟨k1, k2, k3, k4⟩ := low_sets (ob := W2.heap.size) (W2.heap.size + 1) _ ((hb.block _ (by omega)).trans (alloc_second W2 _ _ _)) hn h0 (by omega)
 exact low_mk _ _ _ k1 k2 (k3 _ _ (by omega) ((hb.block _ (by omega)).trans (alloc_first W2 _ _ _))) k4 hN (by omega) (Nat.le_refl _)
theorem low5 {N r p : Nat} {W2 w3 : World} (hN : N ≤ W2.heap.size) (hn : NumsAt w3 (W2.heap.size + 1) (List.replicate p 9)) (hb : Below (W2.heap.size + 1) (W2.alloc nilSum) w3) : LowAt N r p W2 (.pointer (some ⟨W2.heap.size, 0, none⟩)) (((w3.setCell ⟨W2.heap.size, 0, none⟩ (hdr p (W2.heap.size + 1))).setCell ⟨W2.heap.size, 1, none⟩ (hdr p w3.heap.size)).alloc (nilRows p)) := by
 have h0 : Below W2.heap.size W2 w3 := (below1 W2 _).trans (hb.mono (by omega))
 obtain ⟨k1, k2, k3, k4⟩ := low_sets (ob := w3.heap.size) W2.heap.size _ ((hb.block _ (by omega)).trans (alloc_new W2 _)) hn h0 (Nat.le_refl _)
 have hz : ((w3.setCell ⟨W2.heap.size, 0, none⟩ (hdr p (W2.heap.size + 1))).setCell ⟨W2.heap.size, 1, none⟩ (hdr p w3.heap.size)).heap.size = w3.heap.size := by simp
 generalize ((w3.setCell ⟨W2.heap.size, 0, none⟩ (hdr p (W2.heap.size + 1))).setCell ⟨W2.heap.size, 1, none⟩ (hdr p w3.heap.size)) = w4 at k1 k2 k3 k4 hz ⊢
 exact low_mk _ _ _ ((Below.heap_alloc _ _ _ (blk_lt k1)).trans k1) (nums_alloc k2 _) (hz ▸ alloc_new w4 _) (k4.alloc k4.size _) hN (by omega) h0.size
theorem low6 {N r p : Nat} {W2 w3 : World} (hN : N ≤ W2.heap.size) (hn : NumsAt w3 (W2.heap.size + 1 + 1) (List.replicate p 9)) (hb : Below (W2.heap.size + 1 + 1) ((W2.alloc nilSum).alloc (nilRows p)) w3) : LowAt N r p W2 (.pointer (some ⟨W2.heap.size, 0, none⟩)) ((w3.setCell ⟨W2.heap.size, 0, none⟩ (hdr p (W2.heap.size + 1 + 1))).setCell ⟨W2.heap.size, 1, none⟩ (hdr p (W2.heap.size + 1))) := by
 have h0 : Below W2.heap.size W2 w3 := ((below1 W2 _).alloc (by simp) _).trans (hb.mono (by omega))
 obtain ⟨k1, k2, k3, k4⟩ := low_sets (ob := W2.heap.size + 1) W2.heap.size _ ((hb.block _ (by omega)).trans (alloc_first W2 _ _ _)) hn h0 (Nat.le_refl _)
 exact low_mk _ _ _ k1 k2 (k3 _ _ (by omega) ((hb.block _ (by omega)).trans (alloc_second W2 _ _ _))) k4 hN (by omega) (by omega)
set_option maxRecDepth 100000 in
set_option maxHeartbeats 6400000 in
theorem lowest_any (p r : Nat) (v2 : Int) (A3 : Option Addr) (n3 c3 : Nat) (w : World) (hp : p ≤ 8) (hr : r ≤ 4) : Calls Tryz.prog 31 #[.agg #[.int .i64 p, .int .i64 r, .int .i64 v2, .slice A3 n3 c3]] w (lowPost p r w) := by
 have hmk := print_make_of 32 31 (.slice none 0 0) 24 Tryz.underlying32 info31 rfl (by decide) p (by omega)
 go_enter Tryz.func31, Tryz.ntmps31
 have d0 : decide ((p : Int) < 0) = false := decide_eq_false (by omega)
 have d1 : decide (8 < (p : Int)) = false := decide_eq_false (by omega)
 have d2 : decide ((r : Int) < 0) = false := decide_eq_false (by omega)
 have d3 : decide (4 < (r : Int)) = false := decide_eq_false (by omega)
 go_upto_region 3 with (fail)
 have hb2 := (below1 w (.cells #[.int .i64 p, .int .i64 r, .int .i64 v2, .slice A3 n3 c3] 66)).alloc (by simp) (.cells #[.slice none 0 0, .slice none 0 0] 34)
 have f1 : ((w.alloc (.cells #[.int .i64 p, .int .i64 r, .int .i64 v2, .slice A3 n3 c3] 66)).alloc (.cells #[.slice none 0 0, .slice none 0 0] 34)).heap[w.heap.size]? = some (.cells #[.int .i64 p, .int .i64 r, .int .i64 v2, .slice A3 n3 c3] 66 (0, 0)) := ((below1 _ _).block _ (by simp)).trans (alloc_new _ _)
 have f2 : ((w.alloc (.cells #[.int .i64 p, .int .i64 r, .int .i64 v2, .slice A3 n3 c3] 66)).alloc (.cells #[.slice none 0 0, .slice none 0 0] 34)).heap[w.heap.size + 1]? = some (.cells #[.slice none 0 0, .slice none 0 0] 34 (0, 0)) := by
  have := alloc_new (w.alloc (.cells #[.int .i64 p, .int .i64 r, .int .i64 v2, .slice A3 n3 c3] 66)) (.cells #[.slice none 0 0, .slice none 0 0] 34)
  simpa using this
 obtain ⟨N, hN⟩ : ∃ N, w.heap.size = N := ⟨_, rfl⟩
 have HN := Lib.hid hN
 rw [hN] at hb2 f1 f2 ⊢
 clear hN d0 d1 d2 d3
 generalize World.alloc _ _ = W2 at hb2 f1 f2 ⊢
 have HB2 := Lib.hid hb2
 have F1 := Lib.hid f1
 have F2 := Lib.hid f2
 have hsz2 := blk_lt f2
 clear hb2 f1 f2
 have hNz : N ≤ W2.heap.size := by omega
 go_cut [3] (fun s3 wc => LowAt N r p W2 s3 wc)
 case first =>
  have c0 := blk_cell F1.out 0
  simp only [List.getElem?_toArray, List.getElem?_cons_succ, List.getElem?_cons_zero] at c0
  have y0 := c0
  have n0 : N < W2.heap.size := World.block_lt_of_cell? W2 _ y0
  go_region_with ((go_at_call 82; refine (nones_any p _ (by omega)).mono ?_; rintro e w3 ⟨rfl, hn3, hb3⟩; have k0 := below_cells hb3 ⟨N, 0, none⟩ (.int .i64 p) (by (first | exact y0 | exact below_cells (below1 _ _) _ _ y0 | exact below_cells (below1 _ _) _ _ (below_cells (below1 _ _) _ _ y0))); have n3 : N < w3.heap.size := World.block_lt_of_cell? w3 _ k0; (first | (have s0 : w3.heap[W2.heap.size]? = some (.cells #[.slice none 0 0, .slice none 0 0] 34 (0, 0)) := kept_at hb3 (alloc_new W2 _); have z0 := blk_frozen s0 0; have z1 := blk_frozen s0 1; have g0 := blk_cell s0 0; have g1 := blk_cell s0 1; have n4 := blk_lt s0; simp only [List.getElem?_toArray, List.getElem?_cons_succ, List.getElem?_cons_zero] at g0 g1) | (have s0 : w3.heap[W2.heap.size]? = some (.cells #[.slice none 0 0, .slice none 0 0] 34 (0, 0)) := kept_at hb3 (alloc_first W2 _ _ _); have z0 := blk_frozen s0 0; have z1 := blk_frozen s0 1; have g0 := blk_cell s0 0; have g1 := blk_cell s0 1; have n4 := blk_lt s0; simp only [List.getElem?_toArray, List.getElem?_cons_succ, List.getElem?_cons_zero] at g0 g1) | (have s0 : w3.heap[W2.heap.size + 1]? = some (.cells #[.slice none 0 0, .slice none 0 0] 34 (0, 0)) := kept_at hb3 (alloc_second W2 _ _ _); have z0 := blk_frozen s0 0; have z1 := blk_frozen s0 1; have g0 := blk_cell s0 0; have g1 := blk_cell s0 1; have n4 := blk_lt s0; simp only [List.getElem?_toArray, List.getElem?_cons_succ, List.getElem?_cons_zero] at g0 g1) | skip)))
  all_goals go_wp2_with fail
  all_goals go_meet
  all_goals have hb4 := Below.trans (below_drew (Below.refl _ _)) hb3
  all_goals first | refine low1 hNz ?_ ?_ | refine low2 hNz ?_ ?_ | refine low3 hNz ?_ ?_ | refine low4 hNz ?_ ?_ | refine low5 hNz ?_ ?_ | refine low6 hNz ?_ ?_
  all_goals first | exact hn3 | exact hb4 | simpa using hn3 | simpa using hb4 | simpa [World.drew] using hn3 | simpa [World.drew] using hb4
 case rest =>
  obtain ⟨sb, hb, ob, rfl, h1, hS, hB⟩ := hcut
  obtain ⟨wa, rfl⟩ : ∃ wa : World, wa = wc := ⟨_, rfl⟩
  have H1 := Lib.hid h1
  have HS := Lib.hid hS
  have HB := Lib.hid hB
  have c1 := blk_cell h1 1
  simp only [List.getElem?_toArray, List.getElem?_cons_succ, List.getElem?_cons_zero] at c1
  clear h1 hS hB
  go_wp2_with fail
  clear c1
  go_loopw [34] (fun i wr => ∃ (j : Nat) (bs : List Nat), j ≤ p ∧ i = .int .i64 j ∧ bs.length = j ∧ SumAt wr W2.heap.size hb ob r p bs (List.replicate p 9) (List.replicate j (List.replicate r 9)) ∧ wr.heap[sb]? = some (.cells #[hdr p hb, hdr p ob] 34 (0, 0)) ∧ Below W2.heap.size W2 wr) (fun i _ => p - (intOf i).toNat)
  case atStart => exact ⟨0, [], by omega, rfl, rfl, HS.out, H1.out, HB.out⟩
  case round =>
   clear HS H1 HB
   obtain ⟨j, bs, hj, rfl, hbl, hS, h1, hB⟩ := hrel
   have HS := Lib.hid hS
   have H1 := Lib.hid h1
   have HB := Lib.hid hB
   have f1 := (hB.block _ (blk_lt F1.out)).trans F1.out
   have f2 := (hB.block _ (blk_lt F2.out)).trans F2.out
   have c1 := blk_cell h1 1
   have c2 := blk_cell f1 1
   simp only [List.getElem?_toArray, List.getElem?_cons_succ, List.getElem?_cons_zero] at c1 c2
   clear hS h1 hB
   by_cases hlt : j < p
   ·have y1 := c1
    have y2 := c2
    have hne1 : sb ≠ ob := by
     rintro rfl
     have h2 := HS.out.ho
     rw [H1.out] at h2
     injection h2 with h2
     injection h2 with _ h2 _
     exact absurd h2 (by decide)
    have hne2 : N ≠ ob := by
     have := HS.out.l1
     omega
    have HE1 := Lib.hid hne1
    have HE2 := Lib.hid hne2
    clear hne1 hne2
    go_upto_region 7 with (fail)
    go_region_held3 (fun w' => w'.cell? ⟨sb, 1, none⟩ = some (hdr p ob) ∧ w'.cell? ⟨N, 1, none⟩ = some (.int .i64 r))
     (first | (go_keep; done) | exact ⟨k0, k1⟩ | exact ⟨(cell_far (a := ⟨sb, 1, none⟩) (p := ⟨ob, j, none⟩) HE1.out _).trans k0, (cell_far (a := ⟨N, 1, none⟩) (p := ⟨ob, j, none⟩) HE2.out _).trans k1⟩)
     (first | (go_at_call 82; refine (nones_any r _ (by omega)).mono ?_; rintro e w3 ⟨rfl, hn3, hb3⟩; have k0 := below_cells hb3 _ _ y1; have k1 := below_cells hb3 _ _ y2; have hb4 := Below.trans (below_drew (Below.refl _ wr)) hb3; have HB4 := Lib.hid hb4; have HN4 := Lib.hid hn3; have ho3 := (hb4.block _ (blk_lt HS.out.ho)).trans HS.out.ho; have z3 := blk_frozen ho3 j; have g3 := blk_cell ho3 j; rw [List.getElem?_toArray, List.getElem?_append_right (by simp; omega), List.getElem?_replicate, List.length_map, if_pos (by omega)] at g3; clear hb3 hb4 hn3 ho3))
    go_wp2_with fail
    go_roundw
    case rel =>
     have hm := HS.out.more HB4.out HN4.out (Nat.le_refl _) (by omega) HB.out.size
     rw [hbl] at hm
     refine ⟨j + 1, bs ++ [wr.heap.size], by omega, by go_num, by simp [hbl], ?_, (Below.heap_setCell w3 ⟨ob, j, none⟩ _ sb HE1.out).trans ((HB4.out.block _ (blk_lt H1.out)).trans H1.out), (HB.out.trans (HB4.out.mono HB.out.size)).setCell (p := ⟨ob, j, none⟩) ?_ _⟩
     ·rw [List.replicate_succ']
      exact hm
     ·exact HS.out.l1
    case measure => simp [intOf]; omega
   ·obtain rfl : p = j := by omega
    have c0 := blk_cell H1.out 0
    have z0 := blk_frozen f2 0
    have z1 := blk_frozen f2 1
    have g0 := blk_cell f2 0
    have g1 := blk_cell f2 1
    simp only [List.getElem?_toArray, List.getElem?_cons_succ, List.getElem?_cons_zero] at c0 g0 g1
    go_wp2_with fail
    have k1 := blk_put (blk_put f2 0 (hdr p hb) rfl) 1 (hdr p ob) rfl
    have e0 := blk_cell k1 0
    have e1 := blk_cell k1 1
    simp only [List.setIfInBounds_toArray, List.set_cons_zero, List.set_cons_succ, List.getElem?_toArray, List.getElem?_cons_succ, List.getElem?_cons_zero] at e0 e1
    refine bodyPost_ret (v := .agg #[hdr p hb, hdr p ob]) ?_ rfl ⟨hb, ob, bs, rfl, ((HS.out.far hsz2 0 _).far hsz2 1 _).low (by rw [HN.out]; exact hNz), ?_⟩
    ·simp [results, Tryz.f31, go_sem, e0, e1]
    ·rw [HN.out]
     exact ((HB2.out.trans (HB.out.mono hNz)).setCell (p := ⟨N + 1, 0, none⟩) (Nat.le_succ _) _).setCell (p := ⟨N + 1, 1, none⟩) (Nat.le_succ _) _
end Go.Proofs.YtcbcacbbnojdjaaGreatDoor
