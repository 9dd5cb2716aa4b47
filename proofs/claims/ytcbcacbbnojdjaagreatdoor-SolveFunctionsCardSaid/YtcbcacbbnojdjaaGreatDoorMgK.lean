/-
 Part K of what the law's proof needs: walks of the program's functions and the plain laws of what they tell. No condition.
-/
import Derived.Test.YtcbcacbbnojdjaaGreatDoorMgA
import Derived.Test.YtcbcacbbnojdjaaGreatDoorMgD
import Derived.Test.YtcbcacbbnojdjaaGreatDoorMgE
import Derived.Maps.OwnSet
import Derived.Maps.OwnOps
import Derived.Maps.Keyed
import Derived.Maps.Views
import Derived.Lib.Hide
import Derived.StillTailTactics
import Derived.KernelRfl
import Derived.IntWalk
import Derived.Deep.RegionHeld3
import Derived.Deep.AppendLies
namespace Go.Proofs.YtcbcacbbnojdjaaGreatDoor
open Go.Proofs.YtcbcacbbnojdjaaGreatDoor.PSolveFunctions
set_option linter.unusedVariables false
set_option linter.unusedSimpArgs false
abbrev Edg := S144
def InW (x : Int) : Prop := (-1 ≤ x ∧ x ≤ 3) ∨ x = 9
def wgt (d : Int) : Int := if d < -1 ∨ 3 < d then 9 else d
def plus (d w : Int) : Int := if wgt d = 9 ∨ wgt w = 9 then 9 else if (if wgt d < 0 then 0 else wgt d) + wgt w < 3 then (if wgt d < 0 then 0 else wgt d) + wgt w else 3
theorem wgt_inw (d : Int) : InW (wgt d) := by unfold wgt InW; split <;> omega
theorem wgt_of {d : Int} (h : InW d) : wgt d = d := by unfold wgt; unfold InW at h; split <;> omega
theorem plus_inw (d w : Int) : InW (plus d w) := by
 have h1 := wgt_inw d
 have h2 := wgt_inw w
 unfold InW at *
 unfold plus
 repeat' split
 all_goals omega
theorem plus_mono {d d' w w' : Int} (hd : InW d) (hd' : InW d') (hw : InW w) (hw' : InW w') (h1 : d ≤ d') (h2 : w ≤ w') : plus d w ≤ plus d' w' := by
 unfold plus
 rw [wgt_of hd, wgt_of hd', wgt_of hw, wgt_of hw']
 unfold InW at *
 repeat' split
 all_goals omega
theorem plus_none (w : Int) : plus 9 w = 9 := by simp [plus, wgt]
structure Clo (E : List Edg) (R : List Int) (g : Nat → Int) : Prop where
 inw : ∀ x, InW (g x)
 root : ∀ r ∈ R, g r.toNat ≤ 0
 edge : ∀ e ∈ E, g e.f1.toNat ≤ plus (g e.f0.toNat) e.f2
structure IsFrom (n : Nat) (E : List Edg) (R : List Int) (l : List Int) : Prop where
 len : l.length = n
 clo : Clo E R (fun x => l.getD x 9)
 top : ∀ g, Clo E R g → ∀ x, g x ≤ l.getD x 9
theorem IsFrom.one {n : Nat} {E : List Edg} {R l l' : List Int} (h : IsFrom n E R l) (h' : IsFrom n E R l') : l = l' := by
 apply List.ext_getElem (h.len.trans h'.len.symm)
 intro i h1 h2
 have a := h.top _ h'.clo i
 have b := h'.top _ h.clo i
 simp only [List.getD_eq_getElem?_getD, List.getElem?_eq_getElem h1, List.getElem?_eq_getElem h2, Option.getD_some] at a b
 omega
def okE (n : Nat) (e : Edg) : Prop := 0 ≤ e.f0 ∧ e.f0 < n ∧ 0 ≤ e.f1 ∧ e.f1 < n ∧ -1 ≤ e.f2 ∧ e.f2 ≤ 3
theorem IsFrom.mono {n n' m m' : Nat} {E E' : List Edg} {R R' l l' : List Int} (h : IsFrom n E R l) (h' : IsFrom n' E' R' l') (hR : ∀ r ∈ R, r ∈ R') (hE : ∀ e ∈ E, okE m e) (hE' : ∀ e ∈ E', okE m' e)
  (hs : ∀ e ∈ E, ∃ e' ∈ E', e'.f0 = e.f0 ∧ e'.f1 = e.f1 ∧ e'.f2 ≤ e.f2) (x : Nat) : l'.getD x 9 ≤ l.getD x 9 := by
 refine h.top (fun x => l'.getD x 9) ⟨h'.clo.inw, fun r hr => h'.clo.root r (hR r hr), fun e he => ?_⟩ x
 obtain ⟨e', he', h1, h2, h3⟩ := hs e he
 have a := h'.clo.edge e' he'
 rw [h1, h2] at a
 have b := hE e he
 have c := hE' e' he'
 unfold okE at b c
 exact Int.le_trans a (plus_mono (h'.clo.inw _) (h'.clo.inw _) (.inl (by omega)) (.inl (by omega)) (Int.le_refl _) h3)
structure Work (E : List Edg) (R : List Int) (l q : List Int) (P : Edg → Prop) : Prop where
 inw : ∀ x, InW (l.getD x 9)
 top : ∀ g, Clo E R g → ∀ x, g x ≤ l.getD x 9
 root : ∀ r ∈ R, l.getD r.toNat 9 ≤ 0
 edge : ∀ e ∈ E, e.f0 ∈ q ∨ P e ∨ l.getD e.f1.toNat 9 ≤ plus (l.getD e.f0.toNat 9) e.f2
theorem Work.done {n : Nat} {E : List Edg} {R l : List Int} (h : Work E R l [] (fun _ => False)) (hl : l.length = n) : IsFrom n E R l :=
 ⟨hl, ⟨h.inw, h.root, fun e he => by simpa using h.edge e he⟩, h.top⟩
theorem Work.take {E : List Edg} {R l q : List Int} {a : Int} (h : Work E R l (a :: q) (fun _ => False)) : Work E R l q (· ∈ E.filter (fun e => e.f0 == a)) := by
 refine ⟨h.inw, h.top, h.root, fun e he => ?_⟩
 rcases h.edge e he with h1 | h1 | h1
 ·rcases List.mem_cons.1 h1 with h2 | h2
  ·exact .inr (.inl (List.mem_filter.2 ⟨he, by simpa using h2⟩))
  ·exact .inl h2
 ·exact h1.elim
 ·exact .inr (.inr h1)
theorem Work.over {E : List Edg} {R l q : List Int} (h : Work E R l q (· ∈ ([] : List Edg))) : Work E R l q (fun _ => False) :=
 ⟨h.inw, h.top, h.root, fun e he => by simpa using h.edge e he⟩
theorem Work.keep {E : List Edg} {R l q : List Int} {e : Edg} {es : List Edg} (h : Work E R l q (· ∈ e :: es)) (hd : l.getD e.f1.toNat 9 ≤ plus (l.getD e.f0.toNat 9) e.f2) : Work E R l q (· ∈ es) := by
 refine ⟨h.inw, h.top, h.root, fun e' he => ?_⟩
 rcases h.edge e' he with h1 | h1 | h1
 ·exact .inl h1
 ·rcases List.mem_cons.1 h1 with rfl | h2
  ·exact .inr (.inr hd)
  ·exact .inr (.inl h2)
 ·exact .inr (.inr h1)
def addQ (q : List Int) (x : Int) : List Int := if x ∈ q then q else q ++ [x]
theorem mem_addQ {q : List Int} {x y : Int} : y ∈ addQ q x ↔ y ∈ q ∨ y = x := by
 unfold addQ
 split
 ·constructor
  ·exact .inl
  ·rintro (h | rfl)
   ·exact h
   ·assumption
 ·simp
theorem getD_set (l : List Int) (i j : Nat) (v : Int) (hi : i < l.length) : (l.set i v).getD j 9 = if j = i then v else l.getD j 9 := by
 simp only [List.getD_eq_getElem?_getD, List.getElem?_set]
 by_cases h : i = j
 ·subst h; simp [hi]
 ·rw [if_neg h, if_neg (fun e => h e.symm)]
theorem Work.lower {n : Nat} {E : List Edg} {R l q : List Int} {e : Edg} {es : List Edg} (h : Work E R l q (· ∈ e :: es)) (hE : ∀ e ∈ E, okE n e) (hl : l.length = n) (he : e ∈ E) (hd : plus (l.getD e.f0.toNat 9) e.f2 < l.getD e.f1.toNat 9) :
  Work E R (l.set e.f1.toNat (plus (l.getD e.f0.toNat 9) e.f2)) (addQ q e.f1) (· ∈ es) := by
 have hok := hE e he
 unfold okE at hok
 have hi : e.f1.toNat < l.length := by omega
 have hle : ∀ x, (l.set e.f1.toNat (plus (l.getD e.f0.toNat 9) e.f2)).getD x 9 ≤ l.getD x 9 := by
  intro x
  rw [getD_set _ _ _ _ hi]
  split
  ·subst x; omega
  ·exact Int.le_refl _
 refine ⟨fun x => ?_, fun g hg x => ?_, fun r hr => Int.le_trans (hle _) (h.root r hr), fun e' he' => ?_⟩
 ·rw [getD_set _ _ _ _ hi]
  split
  ·exact plus_inw _ _
  ·exact h.inw x
 ·rw [getD_set _ _ _ _ hi]
  split
  ·subst x
   exact Int.le_trans (hg.edge e he) (plus_mono (hg.inw _) (h.inw _) (.inl (by omega)) (.inl (by omega)) (h.top g hg _) (Int.le_refl _))
  ·exact h.top g hg x
 ·by_cases hs : e'.f0 = e.f1
  ·exact .inl (mem_addQ.2 (.inr hs))
  ·have hok' := hE e' he'
   unfold okE at hok'
   have hd' : (l.set e.f1.toNat (plus (l.getD e.f0.toNat 9) e.f2)).getD e'.f0.toNat 9 = l.getD e'.f0.toNat 9 := by
    rw [getD_set _ _ _ _ hi, if_neg (by omega)]
   rcases h.edge e' he' with h1 | h1 | h1
   ·exact .inl (mem_addQ.2 (.inl h1))
   ·rcases List.mem_cons.1 h1 with rfl | h2
    ·refine .inr (.inr ?_)
     rw [hd', getD_set _ _ _ _ hi, if_pos rfl]
     exact Int.le_refl _
    ·exact .inr (.inl h2)
   ·refine .inr (.inr ?_)
    rw [hd']
    exact Int.le_trans (hle _) h1
def fall (l : List Int) : Nat := (l.map (fun x => (x + 1).toNat)).sum
theorem fall_set : ∀ (l : List Int) (i : Nat) (v : Int), i < l.length → fall (l.set i v) + (l.getD i 9 + 1).toNat = fall l + (v + 1).toNat
 | [], i, v, h => by simp at h
 | x :: l, 0, v, h => by simp [fall]; omega
 | x :: l, i + 1, v, h => by
  have := fall_set l i v (by simpa using h)
  simp [fall] at this ⊢
  omega
theorem fall_lower {l : List Int} {i : Nat} {v : Int} (hi : i < l.length) (hv : -1 ≤ v) (h : v < l.getD i 9) : fall (l.set i v) + 1 ≤ fall l := by
 have := fall_set l i v hi
 omega
theorem addQ_length (q : List Int) (x : Int) : (addQ q x).length ≤ q.length + 1 := by unfold addQ; split <;> simp
theorem addQ_nodup {q : List Int} {x : Int} (h : q.Nodup) : (addQ q x).Nodup := by
 unfold addQ
 split
 ·exact h
 ·rename_i hx
  rw [List.nodup_append]
  exact ⟨h, by simp, by rintro a ha b hb rfl; simp at hb; subst hb; exact hx ha⟩
structure Rooted (n : Nat) (l q : List Int) : Prop where
 len : l.length = n
 rng : ∀ x ∈ q, 0 ≤ x ∧ x < n
 val : ∀ x : Nat, l.getD x 9 = if (x : Int) ∈ q then 0 else 9
theorem Rooted.start (n : Nat) : Rooted n (List.replicate n 9) [] :=
 ⟨by simp, by simp, fun x => by
  simp only [List.getD_eq_getElem?_getD, List.getElem?_replicate]
  split <;> simp⟩
theorem Rooted.add {n : Nat} {l q : List Int} {r : Int} (h : Rooted n l q) (h0 : 0 ≤ r) (h1 : r < n) : Rooted n (l.set r.toNat 0) (addQ q r) := by
 have hl := h.len
 refine ⟨by simpa using h.len, fun x hx => ?_, fun x => ?_⟩
 ·rcases mem_addQ.1 hx with hx | rfl
  ·exact h.rng x hx
  ·exact ⟨h0, h1⟩
 ·rw [getD_set _ _ _ _ (by omega)]
  by_cases hx : x = r.toNat
  ·rw [if_pos hx, if_pos (mem_addQ.2 (.inr (by omega)))]
  ·rw [if_neg hx, h.val x]
   by_cases hq : (x : Int) ∈ q
   ·rw [if_pos hq, if_pos (mem_addQ.2 (.inl hq))]
   ·rw [if_neg hq, if_neg (fun hm => by rcases mem_addQ.1 hm with hm | hm; exact hq hm; omega)]
theorem Rooted.work {n : Nat} {E : List Edg} {R l q : List Int} (h : Rooted n l q) (hE : ∀ e ∈ E, okE n e) (hR : ∀ r ∈ R, 0 ≤ r ∧ r ∈ q) (hq : ∀ r ∈ q, r ∈ R) : Work E R l q (fun _ => False) := by
 refine ⟨fun x => ?_, fun g hg x => ?_, fun r hr => ?_, fun e he => ?_⟩
 ·rw [h.val]; unfold InW; split <;> omega
 ·rw [h.val]
  split
  ·rename_i hx
   have := hg.root _ (hq _ hx)
   simpa using this
  ·have := hg.inw x
   unfold InW at this
   omega
 ·have := hR r hr
  rw [h.val, if_pos (by rw [Int.toNat_of_nonneg this.1]; exact this.2)]
  exact Int.le_refl _
 ·have hok := hE e he
  unfold okE at hok
  by_cases hm : e.f0 ∈ q
  ·exact .inl hm
  ·refine .inr (.inr ?_)
   have hv := h.val e.f0.toNat
   rw [Int.toNat_of_nonneg hok.1, if_neg hm] at hv
   rw [hv, plus_none]
   have := h.val e.f1.toNat
   rw [this]
   split <;> omega
theorem fall_replicate (n : Nat) : fall (List.replicate n 9) = 10 * n := by
 induction n with
 | zero => rfl
 | succ n ih => simp [List.replicate_succ, fall] at ih ⊢; omega
theorem fall_root {l : List Int} {i : Nat} (hi : i < l.length) (h : l.getD i 9 = 0 ∨ l.getD i 9 = 9) : fall (l.set i 0) ≤ fall l := by
 have := fall_set l i 0 hi
 rcases h with h | h <;> rw [h] at this <;> simp at this <;> omega
open Go.RowKit Go.Maps Go.Proofs.YtcbcacbbnojdjaaGreatDoorW.PrintWords Go.Proofs.YtcbcacbbnojdjaaGreatDoor.PSolveFunctions
theorem key_int : Keyed Tryz.prog 3 := int_keyed Tryz.underlying3
theorem zero_unit (w : World) : (zeroValue 228).run Tryz.prog w = .ok (.agg #[]) w := by kernel_rfl
theorem key_at {x : Int} (h0 : -9223372036854775808 ≤ x) (h1 : x ≤ 9223372036854775807) : keyOf Tryz.prog 3 (.int .i64 x) = some (.int .i64 x) :=
 keyOf_int_mk Tryz.underlying3 (Bool.and_eq_true_iff.2 ⟨decide_eq_true (show IntKind.i64.min ≤ x from h0), decide_eq_true (show x ≤ IntKind.i64.max from h1)⟩)
structure QuAt (w : World) (base t : Nat) (u : Value) (m k : Nat) (D : DataW Unit) (q : List Int) : Prop where
 lo : base ≤ t
 mlo : base ≤ m
 blk : w.heap[t]? = some (.cells #[u, .map (some m)] 184 (0, 0))
 line : (Kd.int .i64).Q 3 w base (fun _ => True) u q
 mp : w.ownsMap Tryz.prog 3 unitElem m k D
 has : ∀ x : Int, Maps.has D (.int .i64 x) = decide (x ∈ q)
 nd : q.Nodup
def quPost (w : World) (base t m k : Nat) (q' : List Int) (v : Value) (e : Ending) (w' : World) : Prop :=
 e = .returned v ∧ ∃ u' k' D', QuAt w' base t u' m k' D' q' ∧ k' ≤ k + 1 ∧ Below base w w'
theorem Q_turned {α : Type} {d : Kd α} {e : Nat} {w w1 : World} {base m : Nat} {ok : Nat → Prop} {v : Value} {xs : List α} (h : d.Q e w base ok v xs) (ht : w.mapTurned w1 m) : d.Q e w1 base ok v xs := by
 have hm : ∃ es c, w.heap[m]? = some (.map es c) := by obtain ⟨es, c, _, _, hb, _⟩ := ht; exact ⟨es, c, hb⟩
 obtain ⟨es, c, hm⟩ := hm
 refine Kd.Q_mono (Kd.Q_move (Kd.Q_bound h) (fun k hk => ht.grown.block k hk.2.2.1 ?_)) (fun _ hk => hk.1)
 obtain ⟨q, _, cells, hc⟩ := hk.2.2.2
 rintro e
 injection e with e
 subst e
 rw [hm] at hc
 cases hc
theorem map_obj {w : World} {P : Program} {k b n : Nat} {R : Value → Option (DataW Unit × List MemPlace)} {D : DataW Unit} (h : w.ownsMap P k R b n D) : ∃ es c, w.heap[b]? = some (.map es c) := by
 obtain ⟨es, c, hb, _⟩ := h
 exact ⟨es, c, hb⟩
theorem map_far {w : World} {P : Program} {k b n : Nat} {R : Value → Option (DataW Unit × List MemPlace)} {D : DataW Unit} (h : w.ownsMap P k R b n D) {t : Nat} {cs : Array Value} {ty : TypeId} {fr : Nat × Nat} (ht : w.heap[t]? = some (.cells cs ty fr)) : b ≠ t := by
 rintro rfl
 obtain ⟨es, c, hb⟩ := map_obj h
 rw [hb] at ht
 cases ht
set_option maxRecDepth 100000 in
set_option maxHeartbeats 1600000 in
theorem add_any (base t : Nat) (u : Value) (m k : Nat) (D : DataW Unit) (q : List Int) (x : Int) (w : World) (h : QuAt w base t u m k D q) (hb : base ≤ w.heap.size) (h0 : -9223372036854775808 ≤ x) (h1 : x ≤ 9223372036854775807) (hk : k ≤ 1099511627776) (hl : q.length ≤ 1099511627776) :
  Calls Tryz.prog 129 #[.pointer (some ⟨t, 0, none⟩), .int .i64 x] w (quPost w base t m k (addQ q x) (.tuple #[])) := by
 have hkey := key_at h0 h1
 have hh := h.has x
 have c0 : w.cell? ⟨t, 1, none⟩ = some (.map (some m)) := (blk_cell h.blk 1).trans rfl
 obtain ⟨A, c, rfl, hc⟩ := Kd.Q_slice h.line
 have H := Lib.hid h
 have HK := Lib.hid hkey
 clear h hkey
 by_cases hx : x ∈ q
 ·rw [decide_eq_true hx] at hh
  have HA := Lib.hid (show addQ q x = q from if_pos hx)
  have HX := Lib.hid hx
  clear hx
  go_enter Tryz.func129, Tryz.ntmps129
  go_wp2_with (first | (at_lookup; refine wpList_lookup_own_unit _ rfl _ _ 182 rfl 3 228 key_int Tryz.underlying182 (zero_unit _) m k D rfl H.out.mp _ _ rfl HK.out ?_))
  go_end0
  have h := H.out
  have hB : Below w.heap.size w (w.alloc (.cells #[] 228)) := below1 _ _
  exact ⟨rfl, _, k, D, by rw [HA.out]; exact ⟨h.lo, h.mlo, (hB.block _ (blk_lt h.blk)).trans h.blk, Kd.Q_alloc h.line _, h.mp.alloc _, h.has, h.nd⟩, by omega, hB.mono hb⟩
 ·rw [decide_eq_false hx] at hh
  have HX := Lib.hid hx
  clear hx
  have hB : Below w.heap.size w (w.alloc (.cells #[] 228)) := below1 _ _
  have HT := Lib.hid ((hB.block _ (blk_lt H.out.blk)).trans H.out.blk)
  have HQ := Lib.hid (Kd.Q_alloc H.out.line (.cells #[] 228))
  have HM := Lib.hid (H.out.mp.alloc (.cells #[] 228))
  have HB := Lib.hid (hB.mono hb)
  have hlt := blk_lt H.out.blk
  clear hB
  go_enter Tryz.func129, Tryz.ntmps129
  go_wp2_with (first | (at_lookup; refine wpList_lookup_own_unit _ rfl _ _ 182 rfl 3 228 key_int Tryz.underlying182 (zero_unit _) m k D rfl H.out.mp _ _ rfl HK.out ?_) | (at_mapUpdate; refine wpList_mapUpdate_in _ rfl _ _ _ 182 rfl 3 228 key_int Tryz.underlying182 unitElem m k D rfl HM.out (by unfold maxLen; omega) _ _ _ rfl rfl HK.out (.agg []) [] unitElem_mk ?_; intro w1 hown1 hturn1; have hb1 := (hturn1.grown.block t (blk_lt HT.out) (fun e => map_far HM.out HT.out (Option.some.inj e).symm)).trans HT.out; have g0 : w1.cell? ⟨t, 0, none⟩ = some (.slice A q.length c) := (blk_cell hb1 0).trans rfl; have HT1 := Lib.hid hb1; have HM1 := Lib.hid hown1; have HQ1 := Lib.hid (Q_turned HQ.out hturn1); have HB1 := Lib.hid (pw_below_grown HB.out (some m) (Nat.le_trans hb (by simp)) hturn1.grown (fun j hj => by cases hj; exact H.out.mlo)); have hbs : base ≤ w1.heap.size := Nat.le_trans hb HB1.out.size; clear hb1 hown1 hturn1) | (at_builtin; refine Kd.Q_append (Kd.int .i64) (w0 := w) (W := w1) base rfl (.tmp 27) (.tmp 29) 31 3 (.int .i64 0) 8 rfl Tryz.underlying31 info3 rfl (by decide) (by decide) _ q x [.int .i64 x] (fun _ => True) (fun _ => False) rfl rfl rfl (fun _ h => h.elim) (fun _ _ => trivial) HQ1.out HB1.out hbs (by omega) ?_; intro u1 w2 hq hb2 hg hat; have hk2 := (hg.block t (blk_lt HT1.out) (Kd.Q_ne HQ1.out HT1.out (by decide))).trans HT1.out; have z0 := blk_frozen hk2 0; have k0 : w2.cell? ⟨t, 0, none⟩ = some (.slice A q.length c) := (blk_cell hk2 0).trans rfl; have HT2 := Lib.hid hk2; have HQ2 := Lib.hid hq; have HB2 := Lib.hid hb2; have HM2 := Lib.hid (HM1.out.kept hg (fun e => by obtain ⟨es_, c_, hm_⟩ := map_obj HM1.out; obtain ⟨cells_, hq_⟩ := Kd.Q_typed HQ1.out m e.symm; rw [hm_] at hq_; cases hq_)); obtain ⟨A1, c1, rfl, hc1⟩ := Kd.Q_slice hq; clear hk2 hq hb2 hg hat))
  go_end0
  have HA : addQ q x = q ++ [x] := if_neg HX.out
  rw [HA]
  have hne := map_far HM2.out HT2.out
  refine ⟨rfl, _, k + 1, D.put (.int .i64 x) (.agg []), ⟨H.out.lo, H.out.mlo, ?_, Kd.Q_set HQ2.out HT2.out (by decide) 0 _, HM2.out.setCell hne _, fun y => ?_, HA ▸ addQ_nodup H.out.nd⟩, Nat.le_refl _, HB2.out.setCell (p := ⟨t, 0, none⟩) H.out.lo _⟩
  ·simpa using blk_set HT2.out 0 _
  ·by_cases hy : y = x
   ·subst hy
    rw [has_put_same H.out.mp.isMap (show WideAt.IsKeyLit (.int .i64 y) from True.intro)]
    simp
   ·rw [has_put_other (by simpa using hy), H.out.has y]
    simp [hy]
theorem next_none (base t : Nat) (u : Value) (m k : Nat) (D : DataW Unit) (w : World) (h : QuAt w base t u m k D []) :
  Calls Tryz.prog 130 #[.pointer (some ⟨t, 0, none⟩)] w fun e w' => e = .returned (.tuple #[.int .i64 0, .bool false]) ∧ w' = w := by
 obtain ⟨A, c, rfl, hc⟩ := Kd.Q_slice h.line
 have c0 : w.cell? ⟨t, 0, none⟩ = some (.slice A 0 c) := (blk_cell h.blk 0).trans rfl
 clear h
 go_enter Tryz.func130, Tryz.ntmps130
 go_wp2_with fail
 go_ret2
 exact ⟨rfl, rfl⟩
theorem next_end {base t : Nat} {u v : Value} {m k : Nat} {D : DataW Unit} {x : Int} {q : List Int} {w w1 : World} (h : QuAt w base t u m k D (x :: q)) (hb : base ≤ w.heap.size) (hq : (Kd.int .i64).Q 3 w base (fun _ => True) v q)
  (hown : w1.ownsMap Tryz.prog 3 unitElem m k (D.del (.int .i64 x))) (ht : (w.setCell ⟨t, 0, none⟩ v).mapTurned w1 m) : ∃ u' D', QuAt w1 base t u' m k D' q ∧ Below base w w1 := by
 have hq1 := Kd.Q_set hq h.blk (by decide) 0 v
 have hb1 : (w.setCell ⟨t, 0, none⟩ v).heap[t]? = some (.cells #[v, .map (some m)] 184 (0, 0)) := by simpa using blk_set h.blk 0 v
 have hne := map_far h.mp h.blk
 have hBs : Below base w (w.setCell ⟨t, 0, none⟩ v) := (Below.refl base w).setCell (p := ⟨t, 0, none⟩) h.lo v
 have hnd := List.nodup_cons.1 h.nd
 refine ⟨v, _, ⟨h.lo, h.mlo, (ht.grown.block t (blk_lt hb1) (fun e => hne (Option.some.inj e).symm)).trans hb1, Q_turned hq1 ht, hown, fun y => ?_, hnd.2⟩, pw_below_grown hBs (some m) (Nat.le_trans hb hBs.size) ht.grown (fun j hj => by cases hj; exact h.mlo)⟩
 by_cases hy : y = x
 ·subst hy
  rw [has_del_same, decide_eq_false hnd.1]
 ·rw [has_del_other (by simpa using hy), h.has y]
  simp [hy]
set_option maxRecDepth 100000 in
set_option maxHeartbeats 1600000 in
theorem next_some (base t : Nat) (u : Value) (m k : Nat) (D : DataW Unit) (x : Int) (q : List Int) (w : World) (h : QuAt w base t u m k D (x :: q)) (hb : base ≤ w.heap.size) (h0 : -9223372036854775808 ≤ x) (h1 : x ≤ 9223372036854775807) :
  Calls Tryz.prog 130 #[.pointer (some ⟨t, 0, none⟩)] w fun e w' => e = .returned (.tuple #[.int .i64 x, .bool true]) ∧ ∃ u' D', QuAt w' base t u' m k D' q ∧ Below base w w' := by
 have hkey := key_at h0 h1
 obtain ⟨A, c, rfl, hc⟩ := Kd.Q_slice h.line
 have hcc := (Kd.Q_reads' h.line).2.2
 obtain ⟨ad, hA, hx⟩ := Kd.at_int hcc 0 (by omega) (by simp)
 have hx' : w.cell? ad = some (.int .i64 x) := by have hx2 : w.cell? (ad.add 0) = some (.int .i64 x) := hx; rwa [show ad.add 0 = ad by simp [Addr.add]] at hx2
 subst hA
 have hq1 := Kd.Q_drop (k := 1) h.line (by simp)
 have c0 : w.cell? ⟨t, 0, none⟩ = some (.slice (some ad) (x :: q).length c) := (blk_cell h.blk 0).trans rfl
 have c1 : w.cell? ⟨t, 1, none⟩ = some (.map (some m)) := (blk_cell h.blk 1).trans rfl
 have z0 := blk_frozen h.blk 0
 have hlen : (x :: q).length = q.length + 1 := rfl
 rw [hlen] at c0 hc
 have hne := map_far h.mp h.blk
 have hQ2 : ∃ v, (v = if c = 1 then Value.slice (some ad) q.length (c - 1) else .slice (some ⟨ad.block, ad.off + 1, none⟩) q.length (c - 1)) ∧ (Kd.int .i64).Q 3 w base (fun _ => True) v q := by
  refine ⟨_, rfl, ?_⟩
  have he : ad.add (1 * (Kd.int .i64).sz) = ⟨ad.block, ad.off + 1, none⟩ := by
   have := add_field ad 0 1 (by omega)
   rw [show ad.add 0 = ad by simp [Addr.add]] at this
   exact this
  simp only [Option.map_some, he, List.drop_succ_cons, List.drop_zero, List.length_cons, Nat.add_sub_cancel] at hq1
  by_cases hc1 : c = 1
  ·rw [if_pos hc1] at hq1 ⊢
   exact hq1
  ·rw [if_neg hc1] at hq1 ⊢
   exact hq1
 obtain ⟨v, hv, hq⟩ := hQ2
 have H := Lib.hid h
 have HK := Lib.hid hkey
 have HQ := Lib.hid hq
 clear h hkey hcc hx hq1 hq hlen
 have hp : (0 : Int) < ((q.length + 1 : Nat) : Int) := by omega
 have hc' : (1 : Int) ≤ (c : Int) := by omega
 have HE := Lib.hid (fun v w1 (hq : (Kd.int .i64).Q 3 w base (fun _ => True) v q) h1 h2 => next_end (x := x) (v := v) (w1 := w1) H.out hb hq h1 h2)
 by_cases hc1 : c = 1
 ·subst hc1
  obtain rfl : q = [] := List.length_eq_zero_iff.1 (by omega)
  rw [if_pos rfl] at hv
  subst hv
  have HMS := Lib.hid (H.out.mp.setCell (a := ⟨t, 0, none⟩) hne (.slice (some ad) 0 0))
  go_enter Tryz.func130, Tryz.ntmps130
  go_wp2_with (first | (at_delete; refine wpList_delete_own _ rfl _ _ 182 3 rfl 228 key_int Tryz.underlying182 unitElem m k D rfl HMS.out _ _ rfl HK.out ?_; intro w1 hown1 hturn1))
  go_ret2
  exact ⟨rfl, HE.out _ _ HQ.out hown1 hturn1⟩
 ·rw [if_neg hc1] at hv
  subst hv
  have HMS := Lib.hid (H.out.mp.setCell (a := ⟨t, 0, none⟩) hne (.slice (some ⟨ad.block, ad.off + 1, none⟩) q.length (c - 1)))
  go_enter Tryz.func130, Tryz.ntmps130
  go_wp2_with (first | (at_delete; refine wpList_delete_own _ rfl _ _ 182 3 rfl 228 key_int Tryz.underlying182 unitElem m k D rfl HMS.out _ _ rfl HK.out ?_; intro w1 hown1 hturn1))
  go_ret2
  exact ⟨rfl, HE.out _ _ HQ.out hown1 hturn1⟩
theorem QuAt.far {w w1 : World} {base t : Nat} {u : Value} {m k : Nat} {D : DataW Unit} {q : List Int} (h : QuAt w base t u m k D q) (hk : ∀ j, base ≤ j → w1.heap[j]? = w.heap[j]?) : QuAt w1 base t u m k D q := by
 refine ⟨h.lo, h.mlo, (hk t h.lo).trans h.blk, Kd.Q_mono (Kd.Q_move (Kd.Q_bound h.line) (fun j hj => hk j hj.2.1)) (fun _ hj => hj.1), ?_, h.has, h.nd⟩
 obtain ⟨es, c, hb, r⟩ := h.mp
 exact ⟨es, c, (hk m h.mlo).trans hb, r⟩
theorem QuAt.made (w : World) : QuAt ((w.alloc (.map #[] 0)).alloc (.cells #[.slice none 0 0, .map (some w.heap.size)] 184)) w.heap.size (w.heap.size + 1) (.slice none 0 0) w.heap.size 0 (.map []) [] := by
 refine ⟨Nat.le_succ _, Nat.le_refl _, ?_, Kd.Q_nil _ _ _ _ _, (World.ownsMap_made _ _ _ _).alloc _, fun x => rfl, List.nodup_nil⟩
 have := alloc_new (w.alloc (.map #[] 0)) (.cells #[.slice none 0 0, .map (some w.heap.size)] 184)
 simpa using this
theorem ret_i64 {a b : Int} (h : a = b) : Ending.returned (.int .i64 a) = .returned (.int .i64 b) := by rw [h]
theorem weight_any (a : Int) (w : World) : Calls Tryz.prog 166 #[.int .i64 a] w fun e w' => e = .returned (.int .i64 (wgt a)) ∧ w = w' := by
 by_cases h1 : a < -1
 ·have HW := Lib.hid (show wgt a = 9 from if_pos (.inl h1))
  have d1 : decide (a < -1) = true := decide_eq_true h1
  clear h1
  go_enter Tryz.func166, Tryz.ntmps166
  go_wp2_with fail
  go_ret
  exact ⟨by rw [HW.out]; rfl, rfl⟩
 ·by_cases h2 : 3 < a
  ·have HW := Lib.hid (show wgt a = 9 from if_pos (.inr h2))
   have d1 : decide (a < -1) = false := decide_eq_false h1
   have d2 : decide (3 < a) = true := decide_eq_true h2
   clear h1 h2
   go_enter Tryz.func166, Tryz.ntmps166
   go_wp2_with fail
   go_ret
   exact ⟨by rw [HW.out]; rfl, rfl⟩
  ·have HW := Lib.hid (show wgt a = a from if_neg (by omega))
   have d1 : decide (a < -1) = false := decide_eq_false h1
   have d2 : decide (3 < a) = false := decide_eq_false h2
   clear h1 h2
   go_enter Tryz.func166, Tryz.ntmps166
   go_wp2_with fail
   go_ret
   exact ⟨by rw [HW.out]; rfl, rfl⟩
theorem plus_any (d v : Int) (w : World) : Calls Tryz.prog 131 #[.int .i64 d, .int .i64 v] w fun e w' => e = .returned (.int .i64 (plus d v)) ∧ w = w' := by
 have h1 := wgt_inw d
 have h2 := wgt_inw v
 have HP := Lib.hid (show plus d v = if wgt d = 9 ∨ wgt v = 9 then 9 else if (if wgt d < 0 then 0 else wgt d) + wgt v < 3 then (if wgt d < 0 then 0 else wgt d) + wgt v else 3 from rfl)
 have HA := Lib.hid (weight_any d w)
 have HB := Lib.hid (weight_any v w)
 generalize wgt d = a at h1 HP HA
 generalize wgt v = b at h2 HP HB
 unfold InW at h1 h2
 go_enter Tryz.func131, Tryz.ntmps131
 go_wp2_with fail
 refine HA.out.mono ?_
 rintro e w1 ⟨rfl, rfl⟩
 go_wp2_with fail
 refine HB.out.mono ?_
 rintro e w1 ⟨rfl, rfl⟩
 by_cases ha : a = 9
 ·subst ha
  go_wp2_with fail
  go_ret
  exact ⟨by rw [HP.out]; rfl, rfl⟩
 ·by_cases hb : b = 9
  ·subst hb
   have e1 : (a == 9) = false := by simpa using ha
   clear ha
   go_wp2_with fail
   go_ret
   exact ⟨by rw [HP.out, if_pos (by simp)]; rfl, rfl⟩
  ·have e1 : (a == 9) = false := by simpa using ha
   have e2 : (b == 9) = false := by simpa using hb
   have HN := Lib.hid (And.intro ha hb)
   clear ha hb
   go_wp2_with fail
   all_goals
    go_ret
    refine ⟨ret_i64 ?_, rfl⟩
    rw [HP.out, if_neg (by have := HN.out; omega)]
    repeat' split
    all_goals omega
section
open Go.Proofs.YtcbcacbbnojdjaaGreatDoorW.PrintMore
attribute [local go_sem] max2_int min2_int max_two min_two
set_option maxRecDepth 100000 in
set_option maxHeartbeats 6400000 in
theorem valid_any (n : Nat) (Ae : Option Addr) (ce : Nat) (E : List Edg) (Ar : Option Addr) (cr : Nat) (R : List Int) (w : World) (hE : k144.C w Ae E.length E) (hR : (Kd.int .i64).C w Ar R.length R)
  (okE' : ∀ e ∈ E, okE n e) (okR : ∀ r ∈ R, 0 ≤ r ∧ r < n) (hn : n ≤ 1048576) (hle : E.length ≤ 2147483647) (hlr : R.length ≤ 2147483647) :
  Calls Tryz.prog 128 #[.int .i64 n, .slice Ae E.length ce, .slice Ar R.length cr] w fun e w' => e = .returned (.bool true) ∧ Below w.heap.size w w' := by
 have HE := Lib.hid hE
 have HR := Lib.hid hR
 have HOE := Lib.hid okE'
 have HOR := Lib.hid okR
 have d0 : decide ((n : Int) < 0) = false := decide_eq_false (by omega)
 have d1 : decide ((1048576 : Int) < n) = false := decide_eq_false (by omega)
 clear hE hR okE' okR
 go_enter Tryz.func128, Tryz.ntmps128
 go_wp2_with fail
 go_loopw [19] (fun i wr => ∃ j : Nat, j ≤ E.length ∧ i = .int .i64 j ∧ Below w.heap.size w wr) (fun i _ => E.length - (intOf i).toNat)
 case atStart => exact ⟨0, by omega, rfl, Below.refl _ _⟩
 case round =>
  obtain ⟨j, hj, rfl, hb⟩ := hrel
  have HB := Lib.hid hb
  clear hb
  by_cases hlt : j < E.length
  ·obtain ⟨ad, hAd, e0, e1, e2⟩ := at_T144 (Kd.C_below HE.out HB.out) (j : Int) (by omega) (by omega)
   have hok := HOE.out (rd_T144 E (j : Int)) (by rw [rd_T144, Int.toNat_natCast, List.getD_eq_getElem?_getD, List.getElem?_eq_getElem hlt]; exact List.getElem_mem hlt)
   obtain ⟨e, he0⟩ : ∃ e, e = rd_T144 E (j : Int) := ⟨_, rfl⟩
   rw [← he0] at hok
   rw [← he0, Int.toNat_natCast] at e0 e1 e2
   unfold okE at hok
   subst hAd
   clear he0
   go_upto_region 6 with (fail)
   have hb1 := below1 wr (.cells #[.int .i64 e.f0, .int .i64 e.f1, .int .i64 e.f2] 144)
   have hn1 := alloc_new wr (.cells #[.int .i64 e.f0, .int .i64 e.f1, .int .i64 e.f2] 144)
   have HB1 := Lib.hid (HB.out.trans (hb1.mono HB.out.size))
   obtain ⟨q, hq⟩ : ∃ q, wr.heap.size = q := ⟨_, rfl⟩
   rw [hq] at hn1 ⊢
   clear hb1 hq e0 e1 e2 HB
   generalize World.alloc _ _ = W1 at hn1 HB1 ⊢
   have c0 := blk_cell hn1 0
   have c1 := blk_cell hn1 1
   have c2 := blk_cell hn1 2
   simp only [List.getElem?_toArray, List.getElem?_cons_succ, List.getElem?_cons_zero] at c0 c1 c2
   clear hn1
   have HW := Lib.hid (weight_any e.f2 W1)
   have hw : wgt e.f2 = e.f2 := wgt_of (.inl (by omega))
   rw [hw] at HW
   have h9 : (e.f2 == 9) = false := by rw [beq_eq_false_iff_ne]; omega
   obtain ⟨h0, h1, h2, h3, h4, h5⟩ : 0 ≤ e.f0 ∧ e.f0 < n ∧ 0 ≤ e.f1 ∧ e.f1 < n ∧ -1 ≤ e.f2 ∧ e.f2 ≤ 3 := by omega
   obtain ⟨mi, hmi⟩ : ∃ m, (if e.f1 < e.f0 then e.f1 else e.f0) = m := ⟨_, rfl⟩
   obtain ⟨ma, hma⟩ : ∃ m, (if e.f0 < e.f1 then e.f1 else e.f0) = m := ⟨_, rfl⟩
   have g0 : decide (mi < 0) = false := decide_eq_false (by rw [← hmi]; split <;> omega)
   have g1 : decide ((n : Int) ≤ ma) = false := decide_eq_false (by rw [← hma]; split <;> omega)
   clear hok hw h0 h1 h2 h3 h4 h5
   go_wp2_with fail
   refine HW.out.mono ?_
   rintro e' W2 ⟨rfl, rfl⟩
   go_wp2_with fail
   go_roundw
   case rel => exact ⟨j + 1, by omega, by go_num, HB1.out⟩
   case measure => simp [intOf]; omega
  ·obtain rfl : j = E.length := by omega
   clear hlt hj
   go_wp2_with fail
   obtain ⟨wo, rfl⟩ : ∃ wo : World, wo = wr := ⟨_, rfl⟩
   go_loopw [47] (fun i wr => ∃ j : Nat, j ≤ R.length ∧ i = .int .i64 j ∧ wr = wo) (fun i _ => R.length - (intOf i).toNat)
   case atStart => exact ⟨0, by omega, rfl, by trivial⟩
   case round =>
    obtain ⟨j, hj, rfl, rfl⟩ := hrel
    by_cases hlt : j < R.length
    ·obtain ⟨ad, hAd, hx⟩ := Kd.at_int (Kd.C_below HR.out HB.out) (j : Int) (by omega) (by omega)
     have hor := HOR.out (R.getD j 0) (by rw [List.getD_eq_getElem?_getD, List.getElem?_eq_getElem hlt]; exact List.getElem_mem hlt)
     obtain ⟨x, hx0⟩ : ∃ x, R.getD j 0 = x := ⟨_, rfl⟩
     have hrx : rd R (j : Int) = x := hx0
     rw [hrx, Int.toNat_natCast] at hx
     rw [hx0] at hor
     have g0 : decide (x < 0) = false := decide_eq_false (by omega)
     have g1 : decide ((n : Int) ≤ x) = false := decide_eq_false (by omega)
     subst hAd
     clear hx0 hrx hor
     go_wp2_with fail
     go_roundw
     case rel => exact ⟨j + 1, by omega, by go_num, by trivial⟩
     case measure => simp [intOf]; omega
    ·obtain rfl : j = R.length := by omega
     go_wp2_with fail
     go_ret
     exact ⟨rfl, HB.out⟩
end
def NumsAt (w : World) (b : Nat) (l : List Int) : Prop := w.heap[b]? = some (.cells (nums .i64 l).toArray 3 (0, 0))
theorem NumsAt.at_ {w : World} {b : Nat} {l : List Int} (h : NumsAt w b l) {i : Nat} (hi : i < l.length) : w.cell? ⟨b, i, none⟩ = some (.int .i64 (l.getD i 9)) := by
 rw [blk_cell h i]
 simp [nums, List.getElem?_eq_getElem hi, List.getD_eq_getElem?_getD]
theorem NumsAt.far {w w1 : World} {b : Nat} {l : List Int} (h : NumsAt w b l) (hb : w1.heap[b]? = w.heap[b]?) : NumsAt w1 b l := hb.trans h
theorem NumsAt.set {w : World} {b : Nat} {l : List Int} (h : NumsAt w b l) (i : Nat) (v : Int) : NumsAt (w.setCell ⟨b, i, none⟩ (.int .i64 v)) b (l.set i v) := by
 have := blk_set h i (.int .i64 v)
 rw [NumsAt, this]
 simp [nums, List.map_set]
theorem NumsAt.row {w : World} {b base : Nat} {l : List Int} (h : NumsAt w b l) (hb : base ≤ b) (hl : l.length ≤ 9223372036854775807) : w.ownsRow base 3 1 (.slice (some ⟨b, 0, none⟩) l.length l.length) l.length (nums .i64 l) :=
 ⟨by simp [nums], .inr ⟨b, l.length, (nums .i64 l).toArray, rfl, hb, h, Nat.le_refl _, by simpa [maxLen] using hl, by simp [nums], by simp [nums, List.take_of_length_le]⟩⟩
theorem made_ints (m : Nat) : madeCells #[Value.int .i64 0] m = (nums .i64 (List.replicate m 0)).toArray := by
 apply Array.toList_inj.1
 apply List.ext_getElem
 ·simp [nums, madeCells]
 ·intro i h1 h2
  simp [nums, madeCells, Nat.mod_one]
theorem made_rows (m : Nat) : madeCells #[Value.slice none 0 0] m = (List.replicate m (Value.slice none 0 0)).toArray := by
 apply Array.toList_inj.1
 apply List.ext_getElem
 ·simp [madeCells]
 ·intro i h1 h2
  simp [madeCells, Nat.mod_one]
def inE (E : List Edg) (x : Int) : List Edg := E.filter (fun e => e.f0 == x)
theorem inE_snoc (E : List Edg) (e : Edg) (x : Int) : inE (E ++ [e]) x = if e.f0 = x then inE E x ++ [e] else inE E x := by
 unfold inE
 rw [List.filter_append]
 by_cases h : e.f0 = x <;> simp [List.filter_cons, h]
structure IntoAt (w : World) (base I n : Nat) (cs : List Value) (E : List Edg) : Prop where
 len : cs.length = n
 lo : base ≤ I
 blk : w.heap[I]? = some (.cells cs.toArray 83 (0, 0))
 row : ∀ x : Nat, x < n → Kd.R k144 144 w base (fun _ => True) (cs.getD x undef) (inE E x)
 ne : ∀ x y : Nat, x < n → y < n → x ≠ y → ∀ k, (cs.getD x undef).ownBlock = some k → (cs.getD y undef).ownBlock ≠ some k
theorem IntoAt.start (W : World) (base n : Nat) (hb : base ≤ W.heap.size) : IntoAt (W.alloc (.cells (madeCells #[Value.slice none 0 0] n) 83)) base W.heap.size n (List.replicate n (.slice none 0 0)) [] := by
 have hg : ∀ x : Nat, x < n → (List.replicate n (Value.slice none 0 0)).getD x undef = .slice none 0 0 := fun x hx => by
  rw [List.getD_eq_getElem?_getD, List.getElem?_replicate, if_pos hx]; rfl
 refine ⟨by simp, hb, by rw [made_rows]; exact heap_alloc_new W _, fun x hx => ?_, fun x y hx hy _ k hk => ?_⟩
 ·rw [hg x hx]
  exact Kd.R_nil _ _ _ _ _
 ·rw [hg x hx] at hk
  simp [Value.ownBlock] at hk
theorem IntoAt.kept {w w1 : World} {base I n : Nat} {cs : List Value} {E : List Edg} (h : IntoAt w base I n cs E) (hk : ∀ k, k < w.heap.size → (∃ c t, w.heap[k]? = some (.cells c t (0, 0)) ∧ (t = 144 ∨ t = 83)) → w1.heap[k]? = w.heap[k]?) : IntoAt w1 base I n cs E :=
 ⟨h.len, h.lo, (hk I (blk_lt h.blk) ⟨_, _, h.blk, .inr rfl⟩).trans h.blk, fun x hx => by
  have hr := h.row x hx
  refine Kd.R_mono (Kd.R_move (Kd.R_bound hr) (fun k hk' => hk k hk'.2.2.1 ?_)) (fun _ hk => hk.1)
  obtain ⟨q, hq, c, hc⟩ := hk'.2.2.2
  have : q = 144 := by
   rcases List.mem_cons.1 hq with h | h
   ·exact h
   ·cases h
  subst this
  exact ⟨c, _, hc, .inl rfl⟩, h.ne⟩
theorem IntoAt.below {w w1 : World} {base I n : Nat} {cs : List Value} {E : List Edg} (h : IntoAt w base I n cs E) (hb : Below w.heap.size w w1) : IntoAt w1 base I n cs E := h.kept (fun k hk _ => hb.block k hk)
theorem IntoAt.add {W w1 : World} {base I n : Nat} {cs : List Value} {E : List Edg} {e : Edg} {x : Nat} {v1 : Value} (h : IntoAt W base I n cs E) (hx : x < n) (he : e.f0 = (x : Int))
  (hr1 : Kd.R k144 144 w1 base (fun _ => True) v1 (inE E x ++ [e])) (hg : W.grownBy w1 (cs.getD x undef).ownBlock) (hat : v1.ownBlock = (cs.getD x undef).ownBlock ∨ ∃ b, v1.ownBlock = some b ∧ W.heap.size ≤ b) :
  IntoAt (w1.setCell ⟨I, x, none⟩ v1) base I n (cs.set x v1) (E ++ [e]) := by
 have hl := h.len
 have hget : ∀ y, y < n → (cs.set x v1).getD y undef = if y = x then v1 else cs.getD y undef := by
  intro y hy
  simp only [List.getD_eq_getElem?_getD, List.getElem?_set]
  by_cases hxy : x = y
  ·subst hxy; simp [hl, hx]
  ·rw [if_neg hxy, if_neg (fun e => hxy e.symm)]
 have hnI : some I ≠ (cs.getD x undef).ownBlock := by
  intro he
  obtain ⟨c, hc⟩ := Kd.R_typed (h.row x hx) I he.symm
  rw [h.blk] at hc
  injection hc with hc
  injection hc with _ hc _
  revert hc
  decide
 have hblk : w1.heap[I]? = some (.cells cs.toArray 83 (0, 0)) := (hg.block I (blk_lt h.blk) hnI).trans h.blk
 refine ⟨by simpa using hl, h.lo, ?_, fun y hy => ?_, fun y z hy hz hyz k hk => ?_⟩
 ·have := blk_set hblk x v1
  rw [this]
  simp
 ·rw [hget y hy, inE_snoc]
  by_cases hyx : y = x
  ·subst hyx
   rw [if_pos rfl, if_pos he]
   exact Kd.R_set hr1 hblk (by decide) y v1
  ·rw [if_neg hyx, if_neg (by omega)]
   refine Kd.R_set ?_ hblk (by decide) x v1
   refine Kd.R_mono (Kd.R_grown (Kd.R_tight rfl (h.row y hy)) hg (fun k hk => ?_)) (fun _ _ => trivial)
   rw [hk]
   intro he2
   exact h.ne y x hy hx hyx k hk.symm (he2.symm.trans hk.symm)
 ·rw [hget y hy] at hk
  rw [hget z hz]
  have hlt : ∀ u, u < n → ∀ k, (cs.getD u undef).ownBlock = some k → k < W.heap.size := fun u hu => Kd.R_lt (h.row u hu)
  by_cases hyx : y = x
  ·subst hyx
   rw [if_pos rfl] at hk
   rw [if_neg (fun e => hyz e.symm)]
   rcases hat with hat | ⟨b, hb, hle⟩
   ·exact h.ne y z hy hz hyz k (hat ▸ hk)
   ·intro hz2
    have := hlt z hz k hz2
    rw [hb] at hk
    injection hk with hk
    omega
  ·rw [if_neg hyx] at hk
   by_cases hzx : z = x
   ·subst hzx
    rw [if_pos rfl]
    rcases hat with hat | ⟨b, hb, hle⟩
    ·rw [hat]
     exact h.ne y z hy hz hyz k hk
    ·intro hz2
     have := hlt y hy k hk
     rw [hb] at hz2
     injection hz2 with hz2
     omega
   ·rw [if_neg hzx]
    exact h.ne y z hy hz hyz k hk
structure RunAt (wr wq : World) (b B : Nat) (l q : List Int) (u : Value) (k : Nat) (D : DataW Unit) : Prop where
 sz : wr.heap.size = B
 lt : b < B
 nm : NumsAt wq b l
 qu : QuAt wq B (B + 1) u B k D q
 kp : Kept b wr wq
theorem RunAt.size {wr wq : World} {b B : Nat} {l q : List Int} {u : Value} {k : Nat} {D : DataW Unit} (h : RunAt wr wq b B l q u k D) : B ≤ wq.heap.size := h.sz ▸ h.kp.size
theorem RunAt.put {wr wq : World} {b B : Nat} {l q : List Int} {u : Value} {k : Nat} {D : DataW Unit} (h : RunAt wr wq b B l q u k D) (i : Nat) (v : Int) : RunAt wr (wq.setCell ⟨b, i, none⟩ (.int .i64 v)) b B (l.set i v) q u k D :=
 ⟨h.sz, h.lt, h.nm.set i v, h.qu.far (fun j hj => Below.heap_setCell wq ⟨b, i, none⟩ _ j (by have := h.lt; show j ≠ b; omega)), h.kp.trans (Kept.set _ _ _)⟩
theorem RunAt.below {wr wq w1 : World} {b B : Nat} {l q : List Int} {u : Value} {k : Nat} {D : DataW Unit} (h : RunAt wr wq b B l q u k D) (hb : Below wq.heap.size wq w1) : RunAt wr w1 b B l q u k D := by
 have hq := h.qu
 refine ⟨h.sz, h.lt, h.nm.far (hb.block b (blk_lt h.nm)), ⟨hq.lo, hq.mlo, (hb.block _ (blk_lt hq.blk)).trans hq.blk, Kd.Q_below hq.line hb, ?_, hq.has, hq.nd⟩, h.kp.trans (Kept.of_below hb)⟩
 obtain ⟨es, c, he, r⟩ := hq.mp
 exact ⟨es, c, (hb.block _ (blk_lt he)).trans he, r⟩
theorem Kept.then_below {a B : Nat} {w0 w w' : World} (h : Kept a w0 w) (hB : w0.heap.size = B) (hb : Below B w w') : Kept a w0 w' :=
 ⟨hb.os.trans h.os, hb.tape.trans h.tape, hb.output.trans h.output, Nat.le_trans h.size hb.size, fun k hk hne => (hb.block k (hB ▸ hk)).trans (h.block k hk hne)⟩
theorem RunAt.turn {wr wq w1 : World} {b B : Nat} {l q q1 : List Int} {u u1 : Value} {k k1 : Nat} {D D1 : DataW Unit} (h : RunAt wr wq b B l q u k D) (hq : QuAt w1 B (B + 1) u1 B k1 D1 q1) (hb : Below B wq w1) : RunAt wr w1 b B l q1 u1 k1 D1 :=
 ⟨h.sz, h.lt, h.nm.far (hb.block b h.lt), hq, h.kp.then_below h.sz hb⟩
theorem RunAt.into {wr wq : World} {b B base I n : Nat} {l q : List Int} {u : Value} {k : Nat} {D : DataW Unit} {cs : List Value} {E : List Edg} {l0 : List Int} (h : RunAt wr wq b B l q u k D) (h0 : NumsAt wr b l0) (hI : IntoAt wr base I n cs E) : IntoAt wq base I n cs E :=
 hI.kept (fun j hj hc => h.kp.block j hj (by
  rintro rfl
  obtain ⟨c, t, hc, ht⟩ := hc
  have h1 : wr.heap[j]? = _ := h0
  rw [h1] at hc
  injection hc with hc
  injection hc with _ hc _
  rcases ht with rfl | rfl <;> exact absurd hc (by decide)))
theorem inE_mem {E : List Edg} {e : Edg} {x : Int} (h : e ∈ inE E x) : e ∈ E ∧ e.f0 = x := by
 unfold inE at h
 have := List.mem_filter.1 h
 exact ⟨this.1, by simpa using this.2⟩
def HeadAt (w0 : World) (b B n : Nat) (E : List Edg) (R : List Int) (K1 Φ : Nat) (s16 s17 : Value) (wq : World) : Prop :=
 ∃ l q u k D, RunAt w0 wq b B l q u k D ∧ l.length = n ∧ (∀ y ∈ q, 0 ≤ y ∧ y < n) ∧ k + fall l ≤ K1 ∧ q.length + fall l ≤ K1 ∧
  ((s17 = .bool false ∧ Work E R l [] (fun _ => False) ∧ 2 * fall l ≤ Φ) ∨ (∃ a : Nat, a < n ∧ s17 = .bool true ∧ s16 = .int .i64 a ∧ Work E R l q (· ∈ inE E a) ∧ 2 * fall l + q.length + 1 ≤ Φ))
theorem next_head {w0 : World} {b B n : Nat} {E : List Edg} {R l q : List Int} {u : Value} {k : Nat} {D : DataW Unit} {K1 Φ : Nat} (w : World) (h : RunAt w0 w b B l q u k D) (hl : l.length = n) (hq : ∀ y ∈ q, 0 ≤ y ∧ y < n) (hn : n ≤ 1048576) (h1 : k + fall l ≤ K1) (h2 : q.length + fall l ≤ K1) (hw : Work E R l q (fun _ => False)) (h3 : 2 * fall l + q.length ≤ Φ) :
  Calls Tryz.prog 130 #[.pointer (some ⟨B + 1, 0, none⟩)] w fun e w' => ∃ s16 s17, e = .returned (.tuple #[s16, s17]) ∧ HeadAt w0 b B n E R K1 Φ s16 s17 w' := by
 cases q with
 | nil =>
  refine (next_none B (B + 1) u B k D w h.qu).mono ?_
  rintro e w' ⟨rfl, rfl⟩
  exact ⟨_, _, rfl, l, [], u, k, D, h, hl, hq, h1, h2, .inl ⟨rfl, hw, by simpa using h3⟩⟩
 | cons a q =>
  have ha := hq a (by simp)
  refine (next_some B (B + 1) u B k D a q w h.qu h.size (by omega) (by omega)).mono ?_
  rintro e w' ⟨rfl, u', D', hq', hb'⟩
  simp only [List.length_cons] at h2 h3
  refine ⟨_, _, rfl, l, q, u', k, D', h.turn hq' hb', hl, fun y hy => hq y (by simp [hy]), h1, by omega, .inr ⟨a.toNat, by omega, rfl, by rw [Int.toNat_of_nonneg ha.1], ?_, by omega⟩⟩
  rw [Int.toNat_of_nonneg ha.1]
  exact hw.take
open Go.RowKit Go.Maps Go.Proofs.YtcbcacbbnojdjaaGreatDoorW.PrintWords Go.Proofs.YtcbcacbbnojdjaaGreatDoorW.PrintLast Go.Proofs.YtcbcacbbnojdjaaGreatDoor.PSolveFunctions
theorem ffill (n j : Nat) (hj : j < n) : (List.replicate j (9 : Int) ++ List.replicate (n - j) 0).set j 9 = List.replicate (j + 1) 9 ++ List.replicate (n - (j + 1)) 0 := by
 obtain ⟨d, rfl⟩ : ∃ d, n = j + (d + 1) := ⟨n - j - 1, by omega⟩
 rw [show j + (d + 1) - j = d + 1 by omega, show j + (d + 1) - (j + 1) = d by omega]
 apply List.ext_getElem
 ·simp; omega
 ·intro i h1 h2
  simp only [List.getElem_set, List.getElem_append, List.getElem_replicate, List.length_replicate]
  repeat' split
  all_goals first | rfl | omega
theorem info_rows : (Tryz.prog.info? 83).map (fun i => (i.zero, i.size, i.bytes)) = some (some (.slice none 0 0), 1, 24) := by kernel_rfl
theorem info_edge : (Tryz.prog.info? 144).map (fun i => (i.zero, i.size, i.bytes)) = some (some (.agg #[(.int .i64 0), (.int .i64 0), (.int .i64 0)]), 3, 24) := by kernel_rfl
noncomputable def fromT13 : Bool × List (List Nat × List Nat) := rtab .any (opsOf Tryz.f98 13)
theorem from_tab13 : rtab .any (opsOf Tryz.f98 13) = fromT13 := rfl
set_option maxRecDepth 100000 in
set_option maxHeartbeats 6400000 in
theorem from_any (n : Nat) (Ae : Option Addr) (ce : Nat) (E : List Edg) (Ar : Option Addr) (cr : Nat) (R : List Int) (w : World) (hE : k144.C w Ae E.length E) (hce : E.length ≤ ce) (hR : (Kd.int .i64).C w Ar R.length R) (hcr : R.length ≤ cr)
  (okE' : ∀ e ∈ E, okE n e) (okR : ∀ r ∈ R, 0 ≤ r ∧ r < n) (hn0 : 0 < n) (hn : n ≤ 1048576) (hle : E.length ≤ 2147483647) (hlr : R.length ≤ 2147483647) :
  Calls Tryz.prog 98 #[.int .i64 n, .slice Ae E.length ce, .slice Ar R.length cr] w fun e w' => ∃ v l, e = .returned (.tuple #[v, .int .i64 0]) ∧ IsFrom n E R l ∧ (Kd.int .i64).R 3 w' w.heap.size (fun _ => True) v l ∧ Below w.heap.size w w' := by
 have HV := Lib.hid (valid_any n Ae ce E Ar cr R w hE hR okE' okR hn hle hlr)
 have HE := Lib.hid hE
 have HR := Lib.hid hR
 have HOE := Lib.hid okE'
 have HOR := Lib.hid okR
 have hmk1 := print_make 31 3 .i64 8 Tryz.underlying31 info3 (by decide) n (by omega)
 have hmk2 := print_make_of 180 83 (.slice none 0 0) 24 Tryz.underlying180 info_rows rfl (by decide) n (by omega)
 clear hE hR okE' okR
 go_enter Tryz.func98, Tryz.ntmps98
 go_wp2_with fail
 refine HV.out.mono ?_
 rintro e w1 ⟨rfl, hb⟩
 have HB := Lib.hid hb
 clear hb HV
 go_wp2_with fail
 have hnb : NumsAt (w1.alloc (.cells (madeCells #[Value.int .i64 0] n) 3)) w1.heap.size (List.replicate n 0) := by rw [NumsAt, made_ints]; exact heap_alloc_new w1 _
 have hbb : Below w.heap.size w (w1.alloc (.cells (madeCells #[Value.int .i64 0] n) 3)) := HB.out.trans ((below1 _ _).mono HB.out.size)
 obtain ⟨b, hb⟩ : ∃ b, w1.heap.size = b := ⟨_, rfl⟩
 generalize World.alloc _ _ = W at hnb hbb ⊢
 have hbw : w.heap.size ≤ b := hb ▸ HB.out.size
 rw [hb] at hnb ⊢
 have HNB := Lib.hid hnb
 have HBB := Lib.hid hbb
 clear hnb hbb hb hmk1
 go_loopw [30] (fun i wr => ∃ j : Nat, j ≤ n ∧ i = .int .i64 j ∧ NumsAt wr b (List.replicate j 9 ++ List.replicate (n - j) 0) ∧ Below w.heap.size w wr) (fun i _ => n - (intOf i).toNat)
 case atStart => exact ⟨0, by omega, rfl, by simpa using HNB.out, HBB.out⟩
 case round =>
  clear HNB HBB
  obtain ⟨j, hj, rfl, hW, hB⟩ := hrel
  have HW := Lib.hid hW
  have HBr := Lib.hid hB
  clear hW hB
  by_cases hlt : j < n
  ·have hc := HW.out.at_ (i := j) (by simp; omega)
   have z0 := blk_frozen HW.out j
   go_wp2_with fail
   go_roundw
   case rel => exact ⟨j + 1, by omega, by go_num, ffill n j hlt ▸ HW.out.set j 9, HBr.out.setCell (p := ⟨b, j, none⟩) hbw _⟩
   case measure => simp [intOf]; omega
  ·obtain rfl : n = j := by omega
   have hw2 := HW.out
   rw [Nat.sub_self, List.replicate_zero, List.append_nil] at hw2
   have HW2 := Lib.hid hw2
   clear hw2 HW
   go_wp2_with fail
   have hin := IntoAt.start wr w.heap.size n HBr.out.size
   have hb1 := below1 wr (.cells (madeCells #[Value.slice none 0 0] n) 83)
   generalize World.alloc _ _ = W2 at hin hb1 ⊢
   have HIN := Lib.hid hin
   have HN2 := Lib.hid (HW2.out.far (hb1.block b (blk_lt HW2.out)))
   have HB2 := Lib.hid (HBr.out.trans (hb1.mono HBr.out.size))
   obtain ⟨I, hI⟩ : ∃ I, wr.heap.size = I := ⟨_, rfl⟩
   have hbI : b < I := hI ▸ blk_lt HW2.out
   rw [hI] at HIN ⊢
   clear hin hb1 hI HW2 HBr hmk2 hlt hj
   obtain ⟨wo, rfl⟩ : ∃ wo : World, wo = W2 := ⟨_, rfl⟩
   go_loopw [41] (fun i wr => ∃ (j : Nat) (cs : List Value), j ≤ E.length ∧ i = .int .i64 j ∧ NumsAt wr b (List.replicate n 9) ∧ IntoAt wr w.heap.size I n cs (E.take j) ∧ Below w.heap.size w wr) (fun i _ => E.length - (intOf i).toNat)
   case atStart => exact ⟨0, _, by omega, rfl, HN2.out, HIN.out, HB2.out⟩
   case round =>
    clear HIN HN2 HB2
    obtain ⟨j, cs, hj, rfl, hN, hI, hB⟩ := hrel
    have HN := Lib.hid hN
    have HI := Lib.hid hI
    have HBr := Lib.hid hB
    clear hN hI hB
    by_cases hlt : j < E.length
    ·obtain ⟨ad, hAd, e0, e1, e2⟩ := at_T144 (Kd.C_below HE.out HBr.out) (j : Int) (by omega) (by omega)
     obtain ⟨e, he0⟩ : ∃ e, e = E.getD j z144 := ⟨_, rfl⟩
     have her : rd_T144 E (j : Int) = e := by rw [rd_T144, Int.toNat_natCast]; exact he0.symm
     rw [her, Int.toNat_natCast] at e0 e1 e2
     have hem : e ∈ E := he0 ▸ (by rw [List.getD_eq_getElem?_getD, List.getElem?_eq_getElem hlt]; exact List.getElem_mem hlt)
     have htk : E.take (j + 1) = E.take j ++ [e] := by
      rw [List.take_succ_eq_append_getElem hlt, he0, List.getD_eq_getElem?_getD, List.getElem?_eq_getElem hlt]; rfl
     have hok := HOE.out e hem
     unfold okE at hok
     obtain ⟨x, hx⟩ : ∃ x : Nat, e.f0 = (x : Int) := ⟨e.f0.toNat, by omega⟩
     have hxn : x < n := by omega
     have HTK := Lib.hid htk
     have HXE := Lib.hid hx
     subst hAd
     clear he0 her hem htk hok
     rw [hx] at e0
     clear hx
     have hcx : wr.cell? ⟨I, x, none⟩ = some (cs.getD x undef) := by
      rw [blk_cell HI.out.blk x]
      have hl := HI.out.len
      rw [List.getElem?_toArray, List.getD_eq_getElem?_getD, List.getElem?_eq_getElem (by omega)]; rfl
     have zcx := blk_frozen HI.out.blk x
     obtain ⟨v, hv⟩ : ∃ v, v = cs.getD x undef := ⟨_, rfl⟩
     rw [← hv] at hcx
     have HVX := Lib.hid hv
     have hIlt := blk_lt HI.out.blk
     clear hv
     go_wp2_with fail
     have hbl := below1 wr (.cells #[.int .i64 x, .int .i64 e.f1, .int .i64 e.f2] 144)
     have hnw := alloc_new wr (.cells #[.int .i64 x, .int .i64 e.f1, .int .i64 e.f2] 144)
     obtain ⟨B3, hB3⟩ : ∃ B3, wr.heap.size = B3 := ⟨_, rfl⟩
     have HI3 := Lib.hid (HI.out.below hbl)
     have HN3 := Lib.hid (HN.out.far (hbl.block b (blk_lt HN.out)))
     have HB3 := Lib.hid (HBr.out.trans (hbl.mono HBr.out.size))
     have hc3 : (wr.alloc (.cells #[.int .i64 x, .int .i64 e.f1, .int .i64 e.f2] 144)).cell? ⟨I, x, none⟩ = some v := below_cells hbl _ _ hcx
     rw [hB3] at hnw ⊢
     generalize World.alloc _ _ = W3 at hnw HI3 HN3 HB3 hc3 ⊢
     have x0 := blk_cell hnw 0
     have x1 := blk_cell hnw 1
     have x2 := blk_cell hnw 2
     simp only [List.getElem?_toArray, List.getElem?_cons_succ, List.getElem?_cons_zero] at x0 x1 x2
     have zI := blk_frozen HI3.out.blk x
     have hB3lt : B3 < W3.heap.size := blk_lt hnw
     have hIlt3 : I < W3.heap.size := blk_lt HI3.out.blk
     have hrow := HI3.out.row x hxn
     rw [← HVX.out] at hrow
     obtain ⟨hq0, inner, hown, hreps⟩ := hrow
     obtain ⟨i0, hi0, hz0, hz1, hz2⟩ := info_parts info_edge
     have nI : v.ownBlock ≠ some I := by
      intro he
      obtain ⟨c, hc⟩ := own_typed hown I he
      rw [HI3.out.blk] at hc
      injection hc with hc
      injection hc with _ hc _
      revert hc
      decide
     have nB : v.ownBlock ≠ some B3 := by
      intro he
      have hlt' := Kd.R_lt (HI.out.row x hxn) B3 (HVX.out ▸ he)
      omega
     have hbs : w.heap.size ≤ W3.heap.size := HB3.out.size
     have hlen : (inE (E.take j) x).length ≤ 2147483647 := Nat.le_trans (List.length_filter_le _ _) (by rw [List.length_take]; omega)
     have HC3 := Lib.hid hc3
     have HREP := Lib.hid hreps
     have HNW := Lib.hid hnw
     clear hnw hreps hq0 hbl
     have HI4 := Lib.hid (HI3.out.below (below_drew (Below.refl _ _)))
     have HN4 := Lib.hid (show NumsAt W3.drew b (List.replicate n 9) from HN3.out)
     have HB4 := Lib.hid (below_drew HB3.out)
     have HNW4 := Lib.hid (show W3.drew.heap[B3]? = _ from HNW.out)
     have HOW4 := Lib.hid hown.drew
     have HREP4 := Lib.hid (HREP.out.imp_ (fun _ _ hp => Kd.M_below hp (below_drew (Below.refl _ _))))
     have hB3lt4 : B3 < W3.drew.heap.size := hB3lt
     have hIlt4 : I < W3.drew.heap.size := hIlt3
     have hbs4 : w.heap.size ≤ W3.drew.heap.size := hbs
     clear HI3 HN3 HB3 HNW hown HREP hB3lt hIlt3 hbs hc3 zI
     refine start_ (n := 13) (S := fun w' => w'.cell? ⟨B3, 0, none⟩ = some (.int .i64 x) ∧ w'.cell? ⟨B3, 1, none⟩ = some (.int .i64 e.f1) ∧ w'.cell? ⟨B3, 2, none⟩ = some (.int .i64 e.f2) ∧ w'.cell? ⟨I, x, none⟩ = some v) (ds := [12]) #[false, false, false, false, false, false, false, false, false, false, false, false, false] (by kernel_rfl) rfl rfl ⟨x0, x1, x2, below_cells (below_drew (Below.refl _ _)) _ _ HC3.out⟩ (fun hHeld => ?_)
     refine with_tab from_tab13 (fun HT_ => ?_)
     clear x0 x1 x2
     generalize W3.drew = W4 at HI4 HN4 HB4 HNW4 HOW4 HREP4 hB3lt4 hIlt4 hbs4 hHeld ⊢
     refine pure_ (i := 0) (N := some 45) (v := ?_) (a' := ?_) #[true, false, false, false, false, false, false, false, false, false, false, false, false] rfl rfl (any_of HT_.out (by kernel_rfl)) (fun _ _ _ h => h) (Or.inl ⟨by rfl, ?_⟩) ?_ ?_
     rotate_left
     ·intro w'
      go_simp
      with_reducible rfl
     rotate_left
     ·simp only [Act.put, List.setIfInBounds_toArray, List.set_cons_zero, List.set_cons_succ, i64_w, i32_w]
      rfl
     refine pure_ (i := 1) (N := some 46) (v := ?_) (a' := ?_) #[true, true, false, false, false, false, false, false, false, false, false, false, false] rfl rfl (any_of HT_.out (by kernel_rfl)) (fun _ _ _ h => h) (Or.inl ⟨by rfl, ?_⟩) ?_ ?_
     rotate_left
     ·intro w'
      go_simp
      with_reducible rfl
     rotate_left
     ·simp only [Act.put, List.setIfInBounds_toArray, List.set_cons_zero, List.set_cons_succ, i64_w, i32_w]
      rfl
     refine pure_ (i := 3) (N := some 48) (v := ?_) (a' := ?_) #[true, true, false, true, false, false, false, false, false, false, false, false, false] rfl rfl (any_of HT_.out (by kernel_rfl)) (fun _ _ _ h => h) (Or.inl ⟨by rfl, ?_⟩) ?_ ?_
     rotate_left
     ·intro w'
      go_simp
      with_reducible rfl
     rotate_left
     ·simp only [Act.put, List.setIfInBounds_toArray, List.set_cons_zero, List.set_cons_succ, i64_w, i32_w]
      rfl
     refine pure_ (i := 4) (N := some 49) (v := ?_) (a' := ?_) #[true, true, false, true, true, false, false, false, false, false, false, false, false] rfl rfl (any_of HT_.out (by kernel_rfl)) (fun _ _ _ h => h) (Or.inl ⟨by rfl, ?_⟩) ?_ ?_
     rotate_left
     ·intro w'
      go_simp
      with_reducible rfl
     rotate_left
     ·simp only [Act.put, List.setIfInBounds_toArray, List.set_cons_zero, List.set_cons_succ, i64_w, i32_w]
      rfl
     refine take_ (i := 2) (N := some 47) (v := ?_) (a' := ?_) #[true, true, true, true, true, false, false, false, false, false, false, false, false] rfl rfl (take_of HT_.out (by kernel_rfl)) (fun _ _ _ h => h) (Or.inl ⟨by rfl, ?_⟩) hHeld ?_ ?_
     rotate_left
     ·rintro w' ⟨s0, s1, s2, s3⟩
      go_simp
      with_reducible rfl
     rotate_left
     ·simp only [Act.put, List.setIfInBounds_toArray, List.set_cons_zero, List.set_cons_succ, i64_w, i32_w]
      rfl
     refine take_ (i := 5) (N := some 50) (v := ?_) (a' := ?_) #[true, true, true, true, true, true, false, false, false, false, false, false, false] rfl rfl (take_of HT_.out (by kernel_rfl)) (fun _ _ _ h => h) (Or.inl ⟨by rfl, ?_⟩) hHeld ?_ ?_
     rotate_left
     ·rintro w' ⟨s0, s1, s2, s3⟩
      go_simp
      with_reducible rfl
     rotate_left
     ·simp only [Act.put, List.setIfInBounds_toArray, List.set_cons_zero, List.set_cons_succ, i64_w, i32_w]
      rfl
     refine pure_ (i := 6) (N := some 51) (v := ?_) (a' := ?_) #[true, true, true, true, true, true, true, false, false, false, false, false, false] rfl rfl (any_of HT_.out (by kernel_rfl)) (fun _ _ _ h => h) (Or.inl ⟨by rfl, ?_⟩) ?_ ?_
     rotate_left
     ·intro w'
      go_simp
      with_reducible rfl
     rotate_left
     ·simp only [Act.put, List.setIfInBounds_toArray, List.set_cons_zero, List.set_cons_succ, i64_w, i32_w]
      rfl
     refine take_ (i := 7) (N := some 52) (v := ?_) (a' := ?_) #[true, true, true, true, true, true, true, true, false, false, false, false, false] rfl rfl (take_of HT_.out (by kernel_rfl)) (fun _ _ _ h => h) (Or.inl ⟨by rfl, ?_⟩) hHeld ?_ ?_
     rotate_left
     ·rintro w' ⟨s0, s1, s2, s3⟩
      go_simp
      with_reducible rfl
     rotate_left
     ·simp only [Act.put, List.setIfInBounds_toArray, List.set_cons_zero, List.set_cons_succ, i64_w, i32_w]
      rfl
     refine take_ (i := 8) (N := some 53) (v := ?_) (a' := ?_) #[true, true, true, true, true, true, true, true, true, false, false, false, false] rfl rfl (take_of HT_.out (by kernel_rfl)) (fun _ _ _ h => h) (Or.inl ⟨by rfl, ?_⟩) hHeld ?_ ?_
     rotate_left
     ·rintro w' ⟨s0, s1, s2, s3⟩
      go_simp
      with_reducible rfl
     rotate_left
     ·simp only [Act.put, List.setIfInBounds_toArray, List.set_cons_zero, List.set_cons_succ, i64_w, i32_w]
      rfl
     refine one_ (i := 9) (N := some 54) #[true, true, true, true, true, true, true, true, true, true, false, false, false] rfl rfl (one_of HT_.out (by kernel_rfl)) (by decide) (fun K hK => ?_)
     refine value_ (w1 := ?_) (v := ?_) (by rfl) rfl ?_ ?_
     rotate_left 2
     ·go_simp
      constructor
      ·rfl
      ·rfl
     have hbl5 := below1 W4 (.cells #[.int .i64 x, .int .i64 e.f1, .int .i64 e.f2] 144)
     refine hK.out _ _ ⟨below_cells hbl5 _ _ hHeld.1, below_cells hbl5 _ _ hHeld.2.1, below_cells hbl5 _ _ hHeld.2.2.1, below_cells hbl5 _ _ hHeld.2.2.2⟩ (fun hHeld2 => ?_)
     clear hK K
     refine norm_ (a' := ?_) ?_ ?_
     rotate_left
     ·show Act.put _ (some 54) _ = _
      simp only [Act.put, List.setIfInBounds_toArray, List.set_cons_zero, List.set_cons_succ, i64_w, i32_w]
      rfl
     refine one_ (i := 10) (N := some 55) #[true, true, true, true, true, true, true, true, true, true, true, false, false] rfl rfl (one_of HT_.out (by kernel_rfl)) (by decide) (fun K hK => ?_)
     refine step_append_lies _ (by rfl) _ _ _ (by rfl) w.heap.size 144 i0 _ 3 24 Tryz.underlying83 hi0 hz0 hz1 hz2 rfl (by omega) v _ inner (by rfl) (HOW4.out.alloc _) ⟨W4.heap.size, 0, none⟩ 1 1 [.int .i64 x, .int .i64 e.f1, .int .i64 e.f2] (by rfl) (by rfl) (World.news_of_block (cs := #[.int .i64 x, .int .i64 e.f1, .int .i64 e.f2]) (t := 144) (fr := (0, 0)) (heap_alloc_new W4 _)) (by simp [Value.oneCell']) (by omega) (by unfold maxLen; omega) (by omega) (by simp; omega) (W4.heap.size + 1) (by simp) ?_
     intro gg cap w1' hown1 hgrow hat hlt1
     have hg5 : W4.grownBy w1' v.ownBlock := World.grownBy.trans (World.grownBy_alloc W4 _ _) hgrow
     refine hK.out _ _ ⟨hg5.cell hHeld.1 (Ne.symm nB), hg5.cell hHeld.2.1 (Ne.symm nB), hg5.cell hHeld.2.2.1 (Ne.symm nB), hg5.cell hHeld.2.2.2 (Ne.symm nI)⟩ (fun hHeld3 => ?_)
     have zI5 : w1'.frozen? ⟨I, x, none⟩ = false := (World.frozen?_of_block (hg5.block I hIlt4 (Ne.symm nI))).trans (blk_frozen HI4.out.blk x)
     have cI5 := hHeld3.2.2.2
     clear hK K
     refine norm_ (a' := ?_) ?_ ?_
     rotate_left
     ·show Act.put _ (some 55) _ = _
      simp only [Act.put, List.setIfInBounds_toArray, List.set_cons_zero, List.set_cons_succ, i64_w, i32_w]
      rfl
     refine pure_ (i := 11) (N := some 56) (v := ?_) (a' := ?_) #[true, true, true, true, true, true, true, true, true, true, true, true, false] rfl rfl (any_of HT_.out (by kernel_rfl)) (fun _ _ _ h => h) (Or.inl ⟨by rfl, ?_⟩) ?_ ?_
     rotate_left
     ·intro w'
      go_simp
      with_reducible rfl
     rotate_left
     ·simp only [Act.put, List.setIfInBounds_toArray, List.set_cons_zero, List.set_cons_succ, i64_w, i32_w]
      rfl
     refine last_ (i := 12) (N := none) #[true, true, true, true, true, true, true, true, true, true, true, true, true] rfl rfl (one_of HT_.out (by kernel_rfl)) (by decide) (fun K hK => ?_)
     refine skip_ (w1 := ?_) (by rfl) rfl ?_ ?_
     rotate_left
     ·go_simp
      rfl
     refine hK.out _ _ ?_
     clear hK K
     refine done_ (done_of HT_.out (by kernel_rfl)) ?_
     have hv1 : Kd.R k144 144 w1' w.heap.size (fun _ => True) (.slice (some ⟨gg, 0, none⟩) ((inE (E.take j) x).length + 1) cap) (inE (E.take j) x ++ [e]) := by
      refine Kd.R_appended (okp := fun _ => False) (W := W4) (v := v) (inner := inner) (cs := [.int .i64 x, .int .i64 e.f1, .int .i64 e.f2]) (fun _ _ => trivial) HREP4.out (by have := k144_mkM W4 w.heap.size (fun _ => False) e; rwa [HXE.out] at this) (fun _ hk => hk.elim) (fun _ _ => trivial) hown1 hg5 ?_
      rcases hat with hat | hat
      ·exact .inl hat.symm
      ·exact .inr ⟨gg, rfl, by rw [hat]; omega⟩
     have hIN := HI4.out.add (x := x) hxn HXE.out hv1 (HVX.out ▸ hg5) (by
      rcases hat with hat | hat
      ·exact .inl (HVX.out ▸ hat.symm)
      ·exact .inr ⟨gg, rfl, by rw [hat]; omega⟩)
     have hnb : NumsAt (w1'.setCell ⟨I, x, none⟩ (.slice (some ⟨gg, 0, none⟩) ((inE (E.take j) x).length + 1) cap)) b (List.replicate n 9) := by
      have hne : some b ≠ v.ownBlock := by
       intro he
       obtain ⟨c, hc⟩ := own_typed HOW4.out b he.symm
       have hb2 : W4.heap[b]? = _ := HN4.out
       rw [hb2] at hc
       injection hc with hc
       injection hc with _ hc _
       revert hc
       decide
      exact HN4.out.far ((Below.heap_setCell w1' ⟨I, x, none⟩ _ b (by show b ≠ I; omega)).trans (hg5.block b (blk_lt HN4.out) hne))
     have hbw1 : Below w.heap.size w (w1'.setCell ⟨I, x, none⟩ (.slice (some ⟨gg, 0, none⟩) ((inE (E.take j) x).length + 1) cap)) :=
      (pw_below_grown HB4.out v.ownBlock hbs4 hg5 (fun k hk => own_base HOW4.out k hk)).setCell (p := ⟨I, x, none⟩) HI4.out.lo _
     have HIN := Lib.hid hIN
     have HNB := Lib.hid hnb
     have HBW := Lib.hid hbw1
     clear hIN hnb hbw1 hv1 hown1 hgrow hat hg5 zI5 cI5 hHeld hHeld2 hHeld3 HT_ HI4 HN4 HB4 HNW4 HOW4 HREP4
     go_wp2_with fail
     go_roundw
     case rel => exact ⟨j + 1, _, by omega, by go_num, HNB.out, by rw [HTK.out]; exact HIN.out, HBW.out⟩
     case measure => simp [intOf]; omega
    ·obtain rfl : j = E.length := by omega
     have hI := HI.out
     rw [List.take_length] at hI
     have HI2 := Lib.hid hI
     have hmm := @run_makeMap Tryz.prog
     clear hI HI
     go_wp2_with fail
     have hqu := QuAt.made wr
     have hb2 : Below wr.heap.size wr ((wr.alloc (.map #[] 0)).alloc (.cells #[.slice none 0 0, .map (some wr.heap.size)] 184)) := (below1 wr (.map #[] 0)).alloc (by simp) _
     generalize World.alloc (World.alloc _ _) _ = W5 at hqu hb2 ⊢
     obtain ⟨w0, rfl⟩ : ∃ w0 : World, w0 = wr := ⟨_, rfl⟩
     obtain ⟨B, hB⟩ : ∃ B, w0.heap.size = B := ⟨_, rfl⟩
     rw [hB] at hqu ⊢
     have HRA := Lib.hid (show RunAt w0 W5 b B (List.replicate n 9) [] (.slice none 0 0) 0 (.map []) from ⟨hB, hB ▸ blk_lt HN.out, HN.out.far (hb2.block b (blk_lt HN.out)), hqu, Kept.of_below hb2⟩)
     have HB := Lib.hid hB
     clear hqu hb2 hB hmm
     obtain ⟨wo, rfl⟩ : ∃ wo : World, wo = W5 := ⟨_, rfl⟩
     go_loopw [63] (fun i wq => ∃ (j k : Nat) (l q : List Int) (u : Value) (D : DataW Unit), j ≤ R.length ∧ i = .int .i64 j ∧ RunAt w0 wq b B l q u k D ∧ Rooted n l q ∧ (∀ r ∈ R.take j, r ∈ q) ∧ (∀ r ∈ q, r ∈ R) ∧ k ≤ j ∧ q.length ≤ j ∧ fall l ≤ 10 * n) (fun i _ => R.length - (intOf i).toNat)
     case atStart => exact ⟨0, 0, _, [], _, _, by omega, rfl, HRA.out, Rooted.start n, by simp, by simp, by omega, by simp, by rw [fall_replicate]; exact Nat.le_refl _⟩
     case round =>
      clear HRA
      obtain ⟨j, k, l, q, u, D, hj, rfl, hra, hrt, h1, h2, h3, h4, h5⟩ := hrel
      have HRA := Lib.hid hra
      have HRT := Lib.hid hrt
      have H1 := Lib.hid h1
      have H2 := Lib.hid h2
      clear hra hrt h1 h2
      by_cases hlt : j < R.length
      ·obtain ⟨ad, hAd, hx⟩ := Kd.at_int (Kd.C_below HR.out (HRA.out.kp.below HBr.out (Nat.le_refl _) hbw)) (j : Int) (by omega) (by omega)
       have hm : R.getD j 0 ∈ R := by rw [List.getD_eq_getElem?_getD, List.getElem?_eq_getElem hlt]; exact List.getElem_mem hlt
       have htk : R.take (j + 1) = R.take j ++ [R.getD j 0] := by
        rw [List.take_succ_eq_append_getElem hlt, List.getD_eq_getElem?_getD, List.getElem?_eq_getElem hlt]; rfl
       have hor := HOR.out _ hm
       obtain ⟨x, hx0⟩ : ∃ x : Nat, R.getD j 0 = (x : Int) := ⟨(R.getD j 0).toNat, by omega⟩
       have hrx : rd R (j : Int) = (x : Int) := hx0
       rw [hrx, Int.toNat_natCast] at hx
       rw [hx0] at hor htk hm
       have hxn : x < n := by omega
       have HTK := Lib.hid htk
       have HM := Lib.hid hm
       have hlen := HRT.out.len
       have hc := HRA.out.nm.at_ (i := x) (by omega)
       have z0 := blk_frozen HRA.out.nm x
       subst hAd
       clear hm htk hor hx0 hrx hlen
       have hcase := HRT.out.val x
       go_wp2_with fail
       have HRA2 := Lib.hid (HRA.out.put x 0)
       refine (add_any B (B + 1) u B k D q x _ HRA2.out.qu HRA2.out.size (by omega) (by omega) (by omega) (by omega)).mono ?_
       rintro e w7 ⟨rfl, u', k', D', hq', hk', hb'⟩
       have HRA3 := Lib.hid (HRA2.out.turn hq' hb')
       clear hq' hb' hc z0 hx hcase
       go_wp2_with fail
       go_roundw
       case rel =>
        have hlx : x < l.length := by rw [HRT.out.len]; exact hxn
        refine ⟨j + 1, k', _, _, u', D', by omega, by go_num, HRA3.out, HRT.out.add (r := (x : Int)) (by omega) (by omega), fun r hr => ?_, fun r hr => ?_, by omega, by have := addQ_length q (x : Int); omega, Nat.le_trans (fall_root hlx ?_) h5⟩
        ·rw [HTK.out] at hr
         rcases List.mem_append.1 hr with hr | hr
         ·exact mem_addQ.2 (.inl (H1.out r hr))
         ·exact mem_addQ.2 (.inr (by simpa using hr))
        ·rcases mem_addQ.1 hr with hr | hr
         ·exact H2.out r hr
         ·rw [hr]; exact HM.out
        ·have := HRT.out.val x
         rw [this]
         split
         ·exact .inl rfl
         ·exact .inr rfl
       case measure => simp [intOf]; omega
      ·obtain rfl : j = R.length := by omega
       have h1 := H1.out
       rw [List.take_length] at h1
       have HW := Lib.hid (HRT.out.work HOE.out (fun r hr => ⟨(HOR.out r hr).1, h1 r hr⟩) H2.out)
       have HL := Lib.hid HRT.out.len
       have HQR := Lib.hid HRT.out.rng
       clear h1 H1 H2 HRT
       go_wp2_with fail
       refine (next_head (K1 := R.length + 10 * n) (Φ := 20 * n + R.length) _ HRA.out HL.out HQR.out hn (by omega) (by omega) HW.out (by omega)).mono ?_
       rintro e w7 ⟨s16, s17, rfl, hH⟩
       have HH := Lib.hid hH
       clear hH HRA HW HL HQR h3 h4 h5
       go_wp2_with fail
       go_loopg [16, 17] (20 * n + R.length) (fun kq s16 s17 wq => HeadAt w0 b B n E R (R.length + 10 * n) kq s16 s17 wq)
       case atStart => exact HH.out
       case round =>
        clear HH
        obtain ⟨l, q, u, k, D, hra, hl, hq, h1, h2, hs⟩ := hrel
        have HRA := Lib.hid hra
        have HL := Lib.hid hl
        have HQR := Lib.hid hq
        clear hra hl hq
        rcases hs with ⟨rfl, hw, h3⟩ | ⟨a, han, rfl, rfl, hw, h3⟩
        ·have HF := Lib.hid (hw.done HL.out)
         clear hw
         go_wp2_with fail
         go_ret2
         refine ⟨_, l, rfl, HF.out, ?_, HRA.out.kp.below HBr.out (Nat.le_refl _) hbw⟩
         have hr := HRA.out.nm.row hbw (by rw [HL.out]; omega)
         rw [HL.out] at hr
         exact Kd.R_of_own (by rw [HL.out]; exact hr) (fun _ _ => trivial)
        ·have HW := Lib.hid hw
         clear hw
         have hI := HRA.out.into HN.out HI2.out
         have hca : wr.cell? ⟨I, a, none⟩ = some (cs.getD a undef) := by
          rw [blk_cell hI.blk a]
          have hl := hI.len
          rw [List.getElem?_toArray, List.getD_eq_getElem?_getD, List.getElem?_eq_getElem (by omega)]; rfl
         obtain ⟨A, c, hv, hcc, _⟩ := Kd.R_reads (hI.row a han)
         rw [hv] at hca
         have HV := Lib.hid hv
         have hEa : (inE E (a : Int)).length ≤ E.length := List.length_filter_le _ _
         clear hv hI
         go_wp2_with fail
         clear hca
         obtain ⟨wo, rfl⟩ : ∃ wo : World, wo = wr := ⟨_, rfl⟩
         go_loopw [90] (fun i wq => ∃ (j k : Nat) (l q : List Int) (u : Value) (D : DataW Unit), j ≤ (inE E (a : Int)).length ∧ i = .int .i64 j ∧ RunAt w0 wq b B l q u k D ∧ l.length = n ∧ (∀ y ∈ q, 0 ≤ y ∧ y < n) ∧ k + fall l ≤ R.length + 10 * n ∧ q.length + fall l ≤ R.length + 10 * n ∧ Work E R l q (· ∈ (inE E (a : Int)).drop j) ∧ 2 * fall l + q.length + 1 ≤ gk) (fun i _ => (inE E (a : Int)).length - (intOf i).toNat)
         case atStart => exact ⟨0, k, l, q, u, D, by omega, rfl, HRA.out, HL.out, HQR.out, h1, h2, HW.out, h3⟩
         case round =>
          clear HRA HL HQR HW h1 h2 h3 l q u k D
          obtain ⟨j, k, l, q, u, D, hj, rfl, hra, hl, hq, h1, h2, hw, h3⟩ := hrel
          have HRA := Lib.hid hra
          have HL := Lib.hid hl
          have HQR := Lib.hid hq
          have HW := Lib.hid hw
          clear hra hl hq hw
          by_cases hlt : j < (inE E (a : Int)).length
          ·have hrow := (HRA.out.into HN.out HI2.out).row a han
           rw [HV.out] at hrow
           obtain ⟨ad, hAd, e0, e1, e2⟩ := at_T144 (Kd.R_reads' hrow).2.2 (j : Int) (by omega) (by omega)
           obtain ⟨e, he0⟩ : ∃ e, e = (inE E (a : Int)).getD j z144 := ⟨_, rfl⟩
           have her : rd_T144 (inE E (a : Int)) (j : Int) = e := by rw [rd_T144, Int.toNat_natCast]; exact he0.symm
           rw [her, Int.toNat_natCast] at e0 e1 e2
           have hem : e ∈ inE E (a : Int) := he0 ▸ (by rw [List.getD_eq_getElem?_getD, List.getElem?_eq_getElem hlt]; exact List.getElem_mem hlt)
           have hdr : (inE E (a : Int)).drop j = e :: (inE E (a : Int)).drop (j + 1) := by
            rw [List.drop_eq_getElem_cons hlt, he0, List.getD_eq_getElem?_getD, List.getElem?_eq_getElem hlt]; rfl
           obtain ⟨hemE, hef0⟩ := inE_mem hem
           have hok := HOE.out e hemE
           have HOK := Lib.hid hok
           unfold okE at hok
           obtain ⟨y, hy⟩ : ∃ y : Nat, e.f1 = (y : Int) := ⟨e.f1.toNat, by omega⟩
           have hyn : y < n := by omega
           have hw := HW.out
           rw [hdr] at hw
           have HW2 := Lib.hid hw
           have HEM := Lib.hid hemE
           have HEY := Lib.hid hy
           have HEF := Lib.hid hef0
           subst hAd
           rw [hef0] at e0
           rw [hy] at e1
           clear hw HW he0 her hem hdr hok hy hef0 hemE hrow
           go_wp2_with fail
           clear e0 e1 e2
           have hbl := below1 wr (.cells #[.int .i64 a, .int .i64 y, .int .i64 e.f2] 144)
           have hnw := alloc_new wr (.cells #[.int .i64 a, .int .i64 y, .int .i64 e.f2] 144)
           obtain ⟨B8, hB8⟩ : ∃ B8, wr.heap.size = B8 := ⟨_, rfl⟩
           have hBB : B ≤ B8 := hB8 ▸ HRA.out.size
           have HRA8 := Lib.hid (HRA.out.below hbl)
           rw [hB8] at hnw ⊢
           generalize World.alloc _ _ = W8 at hnw HRA8 ⊢
           obtain ⟨p, hp⟩ : ∃ p, p = l.getD a 9 := ⟨_, rfl⟩
           obtain ⟨o, ho⟩ : ∃ o, o = l.getD y 9 := ⟨_, rfl⟩
           have ca := HRA8.out.nm.at_ (i := a) (by rw [HL.out]; exact han)
           have cy := HRA8.out.nm.at_ (i := y) (by rw [HL.out]; exact hyn)
           have zy := blk_frozen HRA8.out.nm y
           rw [← hp] at ca
           rw [← ho] at cy
           have x0 := blk_cell hnw 0
           have x1 := blk_cell hnw 1
           have x2 := blk_cell hnw 2
           simp only [List.getElem?_toArray, List.getElem?_cons_succ, List.getElem?_cons_zero] at x0 x1 x2
           have HP := Lib.hid hp
           have HO := Lib.hid ho
           clear hbl hnw hB8 hp ho HRA
           refine wp_region_still_tail 6 (by kernel_rfl) (by kernel_rfl) ?_
           change wpStill _ _ W8.drew (fun a' => wpList _ _ _ _ a' W8.drew) _ _
           simp only [List.take_succ_cons, List.take_zero, List.drop_succ_cons, List.drop_zero]
           repeat still_step
           refine wpStill_nil ?_
           go_wp2_with fail
           refine (plus_any p e.f2 W8.drew).mono ?_
           rintro r w9 ⟨rfl, rfl⟩
           have HRA9 := Lib.hid (HRA8.out.below (pw_below_drewN (Below.refl _ _) 1))
           obtain ⟨d, hd⟩ : ∃ d, d = plus p e.f2 := ⟨_, rfl⟩
           rw [← hd]
           have HD := Lib.hid hd
           clear hd HRA8
           by_cases hlow : d < o
           ·have dl : decide (d < o) = true := decide_eq_true hlow
            have HLOW := Lib.hid hlow
            clear hlow
            have nb1 : ¬ B8 = b := by have := HRA9.out.lt; omega
            have nb2 : ¬ b = B8 := by have := HRA9.out.lt; omega
            go_wp2_with fail
            have HRAp := Lib.hid (HRA9.out.put y d)
            have hfl : fall (l.set y d) + 1 ≤ fall l := by
             refine fall_lower (by rw [HL.out]; exact hyn) ?_ (by rw [← HO.out]; exact HLOW.out)
             have := plus_inw p e.f2
             rw [← HD.out] at this
             unfold InW at this
             omega
            refine (add_any B (B + 1) u B k D q y _ HRAp.out.qu HRAp.out.size (by omega) (by omega) (by omega) (by omega)).mono ?_
            rintro r w9 ⟨rfl, u', k', D', hq', hk', hb'⟩
            have HRAq := Lib.hid (HRAp.out.turn hq' hb')
            clear hq' hb' ca cy zy x0 x1 x2 HRAp HRA9 dl
            go_wp2_with fail
            go_roundw
            case rel =>
             have hal := addQ_length q (y : Int)
             have hwk := HW2.out.lower HOE.out HL.out HEM.out (by rw [HEY.out, HEF.out, Int.toNat_natCast, Int.toNat_natCast, ← HP.out, ← HO.out, ← HD.out]; exact HLOW.out)
             rw [HEY.out, HEF.out, Int.toNat_natCast, Int.toNat_natCast, ← HP.out, ← HD.out] at hwk
             refine ⟨j + 1, k', _, _, u', D', by omega, by go_num, HRAq.out, by rw [List.length_set]; exact HL.out, fun z hz => ?_, by omega, by omega, hwk, by omega⟩
             rcases mem_addQ.1 hz with hz | hz
             ·exact HQR.out z hz
             ·omega
            case measure => simp [intOf]; omega
           ·have dl : decide (d < o) = false := decide_eq_false hlow
            have HLOW := Lib.hid hlow
            clear hlow
            go_wp2_with fail
            clear ca cy zy x0 x1 x2 dl
            go_roundw
            case rel => exact ⟨j + 1, k, l, q, u, D, by omega, by go_num, HRA9.out, HL.out, HQR.out, h1, h2, HW2.out.keep (by rw [HEY.out, HEF.out, Int.toNat_natCast, Int.toNat_natCast, ← HP.out, ← HO.out, ← HD.out]; have := HLOW.out; omega), h3⟩
            case measure => simp [intOf]; omega
          ·obtain rfl : j = (inE E (a : Int)).length := by omega
           have hw := HW.out
           rw [List.drop_length] at hw
           have HW2 := Lib.hid hw.over
           clear hw HW
           go_wp2_with fail
           obtain ⟨kg, rfl⟩ : ∃ kg, gk = kg + 1 := ⟨gk - 1, by omega⟩
           refine (next_head (K1 := R.length + 10 * n) (Φ := kg) _ HRA.out HL.out HQR.out hn h1 h2 HW2.out (by omega)).mono ?_
           rintro r w9 ⟨s16, s17, rfl, hH⟩
           have HH := Lib.hid hH
           clear hH HRA HL HQR HW2
           go_wp2_with fail
           go_roundg kg
           case rel => exact HH.out
           case measure => omega
def wOk (d : Int) : Bool := decide (0 ≤ d) && (plus d 0 == d)
theorem wOk_of {d : Int} (h : (0 ≤ d ∧ d ≤ 3) ∨ d = 9) : wOk d = true := by
 unfold wOk
 rw [decide_eq_true (by omega), Bool.true_and]
 have : plus d 0 = d := by
  unfold plus wgt
  repeat' split
  all_goals omega
 simpa using this
theorem wOk_iff {d : Int} (h : wOk d = true) : (0 ≤ d ∧ d ≤ 3) ∨ d = 9 := by
 unfold wOk at h
 rw [Bool.and_eq_true, decide_eq_true_eq, beq_iff_eq] at h
 obtain ⟨h1, h2⟩ := h
 unfold plus wgt at h2
 repeat' split at h2
 all_goals omega
set_option maxHeartbeats 1600000 in
theorem plus_quiet (d e : Int) (w : World) : Calls Tryz.prog 131 #[.int .i64 d, .int .i64 e] w fun r w' => r = .returned (.int .i64 (plus d e)) ∧ Drawn0 w w' := by
 have i1 := wgt_inw d
 have i2 := wgt_inw e
 obtain ⟨x, hx⟩ : ∃ x, wgt d = x := ⟨_, rfl⟩
 obtain ⟨y, hy⟩ : ∃ y, wgt e = y := ⟨_, rfl⟩
 have hw1 := weight_any d w
 have hw2 := weight_any e w
 rw [hx] at hw1
 rw [hy] at hw2
 have HW1 := Lib.hid hw1
 have HW2 := Lib.hid hw2
 have HP := Lib.hid (show plus d e = if x = 9 ∨ y = 9 then 9 else if (if x < 0 then 0 else x) + y < 3 then (if x < 0 then 0 else x) + y else 3 by unfold plus; rw [hx, hy])
 rw [hx] at i1
 rw [hy] at i2
 unfold InW at i1 i2
 obtain ⟨v, hv⟩ : ∃ v, plus d e = v := ⟨_, rfl⟩
 rw [hv] at HP ⊢
 clear hx hy hv hw1 hw2
 go_enter Tryz.func131, Tryz.ntmps131
 go_wp2_with (fail)
 refine HW1.out.mono ?_
 rintro r w1 ⟨rfl, rfl⟩
 go_wp2_with (fail)
 refine HW2.out.mono ?_
 rintro r w2 ⟨rfl, rfl⟩
 by_cases h1 : x = 9
 ·have b1 : (x == 9) = true := by simpa using h1
  have HF := Lib.hid (show v = 9 by rw [HP.out, if_pos (.inl h1)])
  clear h1 i1
  go_wp2_with (fail)
  go_ret
  rw [HF.out]; exact ⟨rfl, ⟨0, rfl⟩⟩
 ·have b1 : (x == 9) = false := by simpa using h1
  by_cases h2 : y = 9
  ·have b2 : (y == 9) = true := by simpa using h2
   have HF := Lib.hid (show v = 9 by rw [HP.out, if_pos (.inr h2)])
   clear h1 h2 i1 i2
   go_wp2_with (fail)
   go_ret
   rw [HF.out]; exact ⟨rfl, ⟨0, rfl⟩⟩
  ·have b2 : (y == 9) = false := by simpa using h2
   have HF := Lib.hid (show v = if (if x < 0 then 0 else x) + y < 3 then (if x < 0 then 0 else x) + y else 3 by rw [HP.out, if_neg (by omega)])
   have j1 : -1 ≤ x ∧ x ≤ 3 := by omega
   have j2 : -1 ≤ y ∧ y ≤ 3 := by omega
   clear h1 h2 i1 i2
   by_cases h3 : x < 0
   ·have d3 : decide (x < 0) = true := decide_eq_true h3
    have HG := Lib.hid (show v = y by rw [HF.out, if_pos h3]; split <;> omega)
    go_wp2_with (fail)
    go_ret
    rw [HG.out]; exact ⟨rfl, ⟨0, rfl⟩⟩
   ·have d3 : decide (x < 0) = false := decide_eq_false h3
    by_cases h4 : 3 < x + y
    ·have HG := Lib.hid (show v = 3 by rw [HF.out, if_neg h3]; split <;> omega)
     go_wp2_with (fail)
     go_ret
     rw [HG.out]; exact ⟨rfl, ⟨0, rfl⟩⟩
    ·have HG := Lib.hid (show v = x + y by rw [HF.out, if_neg h3]; split <;> omega)
     go_wp2_with (fail)
     go_ret
     rw [HG.out]; exact ⟨rfl, ⟨0, rfl⟩⟩
theorem weight_quiet (d : Int) (w : World) : Calls Tryz.prog 124 #[.int .i64 d] w fun r w' => r = .returned (.bool (wOk d)) ∧ Drawn0 w w' := by
 by_cases h : 0 ≤ d
 ·have hd : decide (0 ≤ d) = true := decide_eq_true h
  have HW := Lib.hid (show wOk d = (plus d 0 == d) by unfold wOk; rw [hd, Bool.true_and])
  obtain ⟨p, hp⟩ : ∃ p, plus d 0 = p := ⟨_, rfl⟩
  have HQ := Lib.hid (plus_quiet d 0 w)
  rw [hp] at HQ HW
  clear hp
  go_enter Tryz.func124, Tryz.ntmps124
  go_wp2_with (fail)
  refine HQ.out.mono ?_
  rintro r w1 ⟨rfl, ⟨n1, rfl⟩⟩
  go_wp2_with (fail)
  go_ret
  rw [HW.out]; exact ⟨rfl, ⟨n1, rfl⟩⟩
 ·have hd : decide (0 ≤ d) = false := decide_eq_false h
  have HW := Lib.hid (show wOk d = false by unfold wOk; rw [hd, Bool.false_and])
  clear h
  go_enter Tryz.func124, Tryz.ntmps124
  go_wp2_with (fail)
  go_ret
  rw [HW.out]; exact ⟨rfl, ⟨0, rfl⟩⟩
def fitFrom (R : Int) (hp : List Int) (rs : List (List Int)) : List Nat → Bool
 | [] => true
 | i :: l => wOk (hp.getD i 0) && (decide (((rs.getD i []).length : Int) = R) && ((rs.getD i []).all wOk && fitFrom R hp rs l))
def fitsB (f : Fun) (s : S34) : Bool := decide ((s.f0.length : Int) = f.f0) && (decide ((s.f1.length : Int) = f.f0) && fitFrom f.f1 s.f0 s.f1 (List.range s.f0.length))
theorem fitFrom_step {R : Int} {hp : List Int} {rs : List (List Int)} {j n : Nat} (h : j < n) : fitFrom R hp rs (List.range' j (n - j)) = (wOk (hp.getD j 0) && (decide (((rs.getD j []).length : Int) = R) && ((rs.getD j []).all wOk && fitFrom R hp rs (List.range' (j + 1) (n - (j + 1)))))) := by
 rw [show n - j = n - (j + 1) + 1 by omega, List.range'_succ]
 rfl
theorem drop_all {l : List Int} {k : Nat} (h : k < l.length) : (l.drop k).all wOk = (wOk (l.getD k 0) && (l.drop (k + 1)).all wOk) := by
 rw [List.drop_eq_getElem_cons h, List.all_cons, List.getD_eq_getElem?_getD, List.getElem?_eq_getElem h]
 rfl
set_option maxRecDepth 100000 in
set_option maxHeartbeats 6400000 in
theorem fits_walk (f0 f1 f2 : Int) (A3 : Option Addr) (n3 c3 : Nat) (A0 : Option Addr) (c0 : Nat) (hs : List Int) (A1 : Option Addr) (c1 : Nat) (rows : List (List Int)) (w : World)
  (hA0 : (Kd.int .i64).C w A0 hs.length hs) (hA1 : (Kd.slice 3 (Kd.int .i64)).C w A1 rows.length rows) (hn : hs.length ≤ 2147483646) (hrl : ∀ r ∈ rows, r.length ≤ 2147483647) :
  Calls Tryz.prog 95 #[.agg #[.int .i64 f0, .int .i64 f1, .int .i64 f2, .slice A3 n3 c3], .agg #[.slice A0 hs.length c0, .slice A1 rows.length c1]] w fun e w' => e = .returned (.bool (decide ((hs.length : Int) = f0) && (decide ((rows.length : Int) = f0) && fitFrom f1 hs rows (List.range hs.length)))) ∧ Below w.heap.size w w' := by
 have HA0 := Lib.hid hA0
 have HA1 := Lib.hid hA1
 have HRL := Lib.hid hrl
 obtain ⟨B, hB⟩ : ∃ B, (decide ((hs.length : Int) = f0) && (decide ((rows.length : Int) = f0) && fitFrom f1 hs rows (List.range hs.length))) = B := ⟨_, rfl⟩
 rw [hB]
 obtain ⟨n, hn0⟩ : ∃ n, hs.length = n := ⟨_, rfl⟩
 obtain ⟨n', hn1⟩ : ∃ n', rows.length = n' := ⟨_, rfl⟩
 rw [hn0] at HA0 hn hB ⊢
 rw [hn1] at HA1 hB ⊢
 have HN0 := Lib.hid hn0
 have HN1 := Lib.hid hn1
 have HBB := Lib.hid hB
 clear hA0 hA1 hrl hn0 hn1 hB
 go_enter Tryz.func95, Tryz.ntmps95
 go_upto_region 1 with (fail)
 have hb2 : Below w.heap.size w ((w.alloc (.cells #[.int .i64 f0, .int .i64 f1, .int .i64 f2, .slice A3 n3 c3] 66)).alloc (.cells #[.slice A0 n c0, .slice A1 n' c1] 34)) := (below1 w _).alloc (by simp) _
 have g1 : ((w.alloc (.cells #[.int .i64 f0, .int .i64 f1, .int .i64 f2, .slice A3 n3 c3] 66)).alloc (.cells #[.slice A0 n c0, .slice A1 n' c1] 34)).heap[w.heap.size]? = _ := ((below1 _ _).block _ (by simp)).trans (alloc_new w _)
 have g2 : ((w.alloc (.cells #[.int .i64 f0, .int .i64 f1, .int .i64 f2, .slice A3 n3 c3] 66)).alloc (.cells #[.slice A0 n c0, .slice A1 n' c1] 34)).heap[w.heap.size + 1]? = some (.cells #[.slice A0 n c0, .slice A1 n' c1] 34 (0, 0)) := by
  have := alloc_new (w.alloc (.cells #[.int .i64 f0, .int .i64 f1, .int .i64 f2, .slice A3 n3 c3] 66)) (.cells #[.slice A0 n c0, .slice A1 n' c1] 34)
  simpa using this
 obtain ⟨N, hN⟩ : ∃ N, w.heap.size = N := ⟨_, rfl⟩
 have HN := Lib.hid hN
 rw [hN] at hb2 g1 g2 ⊢
 clear hN
 generalize World.alloc _ _ = W2 at hb2 g1 g2 ⊢
 have HB2 := Lib.hid hb2
 have F1 := Lib.hid g1
 have F2 := Lib.hid g2
 have p0 := blk_cell g1 0
 have q0 := blk_cell g2 0
 have q1 := blk_cell g2 1
 simp only [List.getElem?_toArray, List.getElem?_cons_succ, List.getElem?_cons_zero] at p0 q0 q1
 clear hb2 g1 g2
 go_cut [5] (fun v wc => ∃ ok : Bool, v = .bool ok ∧ (ok && fitFrom f1 hs rows (List.range' 0 (n - 0))) = B ∧ (ok = true → (n : Int) = f0 ∧ n' = n) ∧ Below W2.heap.size W2 wc)
 case first =>
  by_cases h0 : (n : Int) = f0
  ·have hd0 : ((n : Int) == f0) = true := by simpa using h0
   by_cases h1 : (n' : Int) = f0
   ·have hd : ((n' : Int) == f0) = true := by simpa using h1
    have HF := Lib.hid (show fitFrom f1 hs rows (List.range' 0 (n - 0)) = B by rw [← HBB.out, decide_eq_true h0, decide_eq_true h1, Bool.true_and, Bool.true_and, List.range_eq_range', Nat.sub_zero])
    have HE := Lib.hid (And.intro h0 (show n' = n by omega))
    clear h0 h1
    go_wp2_with fail
    go_meet
    exact ⟨true, rfl, by rw [Bool.true_and]; exact HF.out, fun _ => HE.out, Below.refl _ _⟩
   ·have hd : ((n' : Int) == f0) = false := by simpa using h1
    have HF := Lib.hid (show false = B by rw [← HBB.out, decide_eq_false h1, Bool.false_and, Bool.and_false])
    clear h0 h1
    go_wp2_with fail
    go_meet
    exact ⟨false, rfl, HF.out, (fun h => by cases h), Below.refl _ _⟩
  ·have hd : ((n : Int) == f0) = false := by simpa using h0
   have HF := Lib.hid (show false = B by rw [← HBB.out, decide_eq_false h0, Bool.false_and])
   clear h0
   go_wp2_with fail
   go_meet
   exact ⟨false, rfl, HF.out, (fun h => by cases h), Below.refl _ _⟩
 case rest =>
  obtain ⟨ok0, rfl, hB0, hE0, hbc⟩ := hcut
  have HB0 := Lib.hid hB0
  have HE0 := Lib.hid hE0
  have HBC := Lib.hid hbc
  clear hB0 hE0 hbc p0 q0 q1
  go_wp2_with fail
  go_loopw [5, 6] (fun v i wr => ∃ (j : Nat) (ok : Bool), j ≤ n ∧ i = .int .i64 j ∧ v = .bool ok ∧ (ok && fitFrom f1 hs rows (List.range' j (n - j))) = B ∧ (ok = true → ok0 = true) ∧ Below W2.heap.size W2 wr) (fun v i _ => n - (intOf i).toNat)
  case atStart => exact ⟨0, ok0, by omega, rfl, rfl, HB0.out, id, HBC.out⟩
  case round =>
   clear HBC HB0
   obtain ⟨j, ok, hj, rfl, rfl, hall, hok, hb⟩ := hrel
   have g1 := (hb.block _ (blk_lt F1.out)).trans F1.out
   have g2 := (hb.block _ (blk_lt F2.out)).trans F2.out
   have p0 := blk_cell g1 0
   have p1 := blk_cell g1 1
   have q0 := blk_cell g2 0
   have q1 := blk_cell g2 1
   simp only [List.getElem?_toArray, List.getElem?_cons_succ, List.getElem?_cons_zero] at p0 p1 q0 q1
   have HBr := Lib.hid hb
   have HALL := Lib.hid hall
   clear g1 g2 hall
   cases ok with
   | false =>
    clear hok
    have HF := Lib.hid (show B = false by rw [← HALL.out]; rfl)
    clear hb
    go_wp2_with fail
    go_ret
    rw [HF.out, HN.out]
    refine ⟨rfl, ?_⟩
    exact HB2.out.trans (HBr.out.mono (by have := blk_lt F1.out; omega))
   | true =>
    have HO := Lib.hid (hok rfl)
    obtain ⟨hE1, hE2⟩ := HE0.out (hok rfl)
    subst hE1
    subst hE2
    clear hok
    by_cases hlt : j < n'
    ·have hbw : Below w.heap.size w wr := by rw [HN.out]; exact HB2.out.trans (hb.mono (by have := blk_lt F1.out; omega))
     obtain ⟨ad0, hx0, v0⟩ := Kd.at_int (Kd.C_below HA0.out hbw) (j : Int) (by omega) (by omega)
     obtain ⟨ad1, R0, e0, hx1, v1, _, hC⟩ := at_L1 (Kd.C_below HA1.out hbw) (j : Int) (by omega) (by omega)
     have r1 : rd_L1 rows (j : Int) = rows.getD j [] := by rw [rd_L1, Int.toNat_natCast]
     obtain ⟨m, hm⟩ : ∃ m, (rows.getD j []).length = m := ⟨_, rfl⟩
     have hml : m ≤ 2147483647 := by rw [← hm]; exact HRL.out _ (by rw [List.getD_eq_getElem?_getD, List.getElem?_eq_getElem (by rw [HN1.out]; exact hlt)]; exact List.getElem_mem _)
     rw [r1, hm] at v1 hC
     obtain ⟨x, hx⟩ : ∃ x, hs.getD j 0 = x := ⟨_, rfl⟩
     have e1 : rd hs (j : Int) = x := by unfold rd; rw [Int.toNat_natCast]; exact hx
     rw [e1, Int.toNat_natCast] at v0
     rw [Int.toNat_natCast] at v1
     obtain ⟨b, hb0⟩ : ∃ b, wOk x = b := ⟨_, rfl⟩
     obtain ⟨q, hq⟩ : ∃ q, ((m : Int) == f1) = q := ⟨_, rfl⟩
     have HPL := Lib.hid (show ∀ w, Calls Tryz.prog 124 #[.int .i64 x] w fun r w' => r = .returned (.bool b) ∧ Drawn0 w w' from hb0 ▸ weight_quiet x)
     have HST := Lib.hid (show ((b && q) && ((rows.getD j []).all wOk && fitFrom f1 hs rows (List.range' (j + 1) (n' - (j + 1))))) = B by
      rw [← HALL.out, Bool.true_and, fitFrom_step hlt, hx, hb0, hm, show decide ((m : Int) = f1) = q by
       rw [← hq]
       by_cases hm1 : (m : Int) = f1
       ·rw [decide_eq_true hm1, show ((m : Int) == f1) = true by simpa using hm1]
       ·rw [decide_eq_false hm1, show ((m : Int) == f1) = false by simpa using hm1], Bool.and_assoc])
     have HC := Lib.hid hC
     have HM := Lib.hid hm
     subst hx0
     subst hx1
     clear hC hm r1 hx e1 hb0 hbw hb HALL
     go_upto_region 5 with (fail)
     go_cut [5] (fun v wc => v = .bool (b && q) ∧ Below wr.heap.size wr wc)
     case first =>
      cases b with
      | true =>
       go_quiet (first | (go_at_call 124; (with_reducible refine (HPL.out _).mono ?_); rintro e w' ⟨rfl, ⟨nd, rfl⟩⟩; (try first | exact ⟨rfl, _, World.drewN_drewN _ _ _⟩ | exact ⟨rfl, _, Eq.trans (World.drewN_drewN _ _ _) (congrArg (World.drewN _) (Nat.add_assoc _ _ _))⟩)))
       go_wp2_with fail
       go_meet
       exact ⟨by rw [Bool.true_and], pw_below_drewN (Below.refl _ _) _⟩
      | false =>
       go_quiet (first | (go_at_call 124; (with_reducible refine (HPL.out _).mono ?_); rintro e w' ⟨rfl, ⟨nd, rfl⟩⟩; (try first | exact ⟨rfl, _, World.drewN_drewN _ _ _⟩ | exact ⟨rfl, _, Eq.trans (World.drewN_drewN _ _ _) (congrArg (World.drewN _) (Nat.add_assoc _ _ _))⟩)))
       go_wp2_with fail
       go_meet
       exact ⟨rfl, pw_below_drewN (Below.refl _ _) _⟩
     case rest =>
      obtain ⟨rfl, hbc⟩ := hcut
      obtain ⟨bq, hbq0⟩ : ∃ bq, (b && q) = bq := ⟨_, rfl⟩
      rw [hbq0] at HST ⊢
      have V1 := below_cells hbc _ _ v1
      have P1 := below_cells hbc _ _ p1
      have Q1 := below_cells hbc _ _ q1
      have HCC := Lib.hid hbc
      clear hbq0 hq HPL v1 v0 p0 p1 q0 q1 hbc
      go_wp2_with fail
      clear V1 P1 Q1
      obtain ⟨L, hL⟩ : ∃ L, rows.getD j [] = L := ⟨_, rfl⟩
      obtain ⟨R, hR⟩ : ∃ R, fitFrom f1 hs rows (List.range' (j + 1) (n' - (j + 1))) = R := ⟨_, rfl⟩
      rw [hL] at HC HM HST
      rw [hR] at HST
      have HR := Lib.hid hR
      obtain ⟨wo, rfl⟩ : ∃ wo : World, wo = wr := ⟨_, rfl⟩
      clear hL hR
      go_loopw [5, 55] (fun v i wq => ∃ (k : Nat) (okk : Bool), k ≤ m ∧ v = .bool okk ∧ i = .int .i64 k ∧ (okk && ((L.drop k).all wOk && R)) = B ∧ Below wo.heap.size wo wq) (fun v i _ => m - (intOf i).toNat)
      case atStart => exact ⟨0, bq, by omega, rfl, rfl, by rw [List.drop_zero]; exact HST.out, HCC.out⟩
      case round =>
       clear HCC HST
       obtain ⟨k, okk, hk, rfl, rfl, hst, hbq⟩ := hrel
       have HST := Lib.hid hst
       have HBq := Lib.hid hbq
       clear hst
       by_cases hkm : k < m
       ·obtain ⟨cd, hx2, z0⟩ := Kd.at_int (Kd.C_below HC.out hbq) (k : Int) (by omega) (by omega)
        obtain ⟨y, hy⟩ : ∃ y, L.getD k 0 = y := ⟨_, rfl⟩
        have e2 : rd L (k : Int) = y := by unfold rd; rw [Int.toNat_natCast]; exact hy
        rw [e2, Int.toNat_natCast] at z0
        have HSU := Lib.hid (show ((okk && wOk y) && ((L.drop (k + 1)).all wOk && R)) = B by
         rw [← HST.out, drop_all (l := L) (k := k) (by rw [HM.out]; exact hkm), hy, Bool.and_assoc, Bool.and_assoc])
        subst hx2
        clear hy e2 hbq
        cases okk with
        | true =>
         rw [Bool.true_and] at HSU
         obtain ⟨yb, hyb⟩ : ∃ yb, wOk y = yb := ⟨_, rfl⟩
         have HWK := Lib.hid (show ∀ w, Calls Tryz.prog 124 #[.int .i64 y] w fun r w' => r = .returned (.bool yb) ∧ Drawn0 w w' from hyb ▸ weight_quiet y)
         rw [hyb] at HSU
         clear hyb
         go_wp2_with fail
         refine (HWK.out _).mono ?_
         rintro e w6 ⟨rfl, ⟨nd, rfl⟩⟩
         have HQ1 := Lib.hid (show Below wo.heap.size wo (wr.drewN nd) from pw_below_drewN HBq.out nd)
         clear z0
         generalize wr.drewN nd = w6 at HQ1 ⊢
         go_wp2_with fail
         go_roundw
         case rel => exact ⟨k + 1, yb, by omega, rfl, by go_num, HSU.out, HQ1.out⟩
         case measure => simp [intOf]; omega
        | false =>
         rw [Bool.false_and] at HSU
         go_wp2_with fail
         go_roundw
         case rel => exact ⟨k + 1, false, by omega, rfl, by go_num, HSU.out, HBq.out⟩
         case measure => simp [intOf]; omega
       ·obtain rfl : k = m := by omega
        have HSU := Lib.hid (show (okk && R) = B by rw [← HST.out, List.drop_of_length_le (by rw [HM.out]; exact Nat.le_refl _), List.all_nil, Bool.true_and])
        clear hbq
        go_wp2_with fail
        go_roundw
        case rel => exact ⟨j + 1, okk, by omega, by go_num, rfl, by rw [HR.out]; exact HSU.out, fun _ => HO.out, HBr.out.trans (HBq.out.mono HBr.out.size)⟩
        case measure => simp [intOf]; omega
    ·obtain rfl : j = n' := by omega
     have HF := Lib.hid (show B = true by rw [← HALL.out, Nat.sub_self]; rfl)
     clear hb
     go_wp2_with fail
     go_ret
     rw [HF.out, HN.out]
     refine ⟨rfl, ?_⟩
     exact HB2.out.trans (HBr.out.mono (by have := blk_lt F1.out; omega))
open Go.RowKit Go.Proofs.YtcbcacbbnojdjaaGreatDoorW.PrintWords Go.Proofs.YtcbcacbbnojdjaaGreatDoor.PSolveFunctions
theorem fits_any (f : Fun) (s : S34) (A3 : Option Addr) (c3 : Nat) (B0 : Option Addr) (d0 : Nat) (B1 : Option Addr) (d1 : Nat) (w : World) (h3 : k79.C w A3 f.f3.length f.f3) (hc3 : f.f3.length ≤ c3) (g0 : (Kd.int .i64).C w B0 s.f0.length s.f0) (hd0 : s.f0.length ≤ d0) (g1 : (Kd.slice 3 (Kd.int .i64)).C w B1 s.f1.length s.f1) (hd1 : s.f1.length ≤ d1)
  (hl : s.f0.length ≤ 2147483646) (hrs : ∀ r ∈ s.f1, r.length ≤ 2147483647) :
  Calls Tryz.prog 95 #[.agg #[.int .i64 f.f0, .int .i64 f.f1, .int .i64 f.f2, .slice A3 f.f3.length c3], .agg #[.slice B0 s.f0.length d0, .slice B1 s.f1.length d1]] w fun e w' => e = .returned (.bool (fitsB f s)) ∧ Below w.heap.size w w' :=
 fits_walk f.f0 f.f1 f.f2 A3 f.f3.length c3 B0 d0 s.f0 B1 d1 s.f1 w g0 g1 hl hrs
end Go.Proofs.YtcbcacbbnojdjaaGreatDoor
