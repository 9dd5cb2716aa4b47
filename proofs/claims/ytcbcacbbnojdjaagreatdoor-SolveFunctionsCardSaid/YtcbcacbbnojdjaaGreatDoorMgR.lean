/-
 Part R of what the law's proof needs: walks of the program's functions and the plain laws of what they tell. No condition.
-/
import Derived.Test.YtcbcacbbnojdjaaGreatDoorMgQ
import Derived.Test.YtcbcacbbnojdjaaGreatDoorMgM
import Derived.Test.YtcbcacbbnojdjaaGreatDoorMgB
namespace Go.Proofs.YtcbcacbbnojdjaaGreatDoor
open Go.RowKit Go.Proofs.YtcbcacbbnojdjaaGreatDoorW.PrintWords Go.Proofs.YtcbcacbbnojdjaaGreatDoor.PSolveFunctions
set_option linter.unusedVariables false
set_option linter.unusedSimpArgs false
theorem news_run (c : List Ins) (hc : c.length ≤ 4096) : ∀ (d j : Nat), j + d = c.length → flow_news.l0 (d + 1) (newsTo c j : Int) c (c.length : Int) (j : Int) = some (newsTo c c.length : Int)
 | 0, j, h => by
  obtain rfl : c.length = j := by omega
  show (if (c.length : Int) < c.length then _ else some (newsTo c c.length : Int)) = _
  rw [if_neg (by omega)]
 | d + 1, j, h => by
  have hw : wrap64 ((j : Int) + 1) = ((j + 1 : Nat) : Int) := by unfold wrap64; omega
  have hle := calls_news c j
  have hx : (rd_T79 c (j : Int)) = c.getD j zI := by rw [rd_T79, Int.toNat_natCast]
  have hs : newsTo c (j + 1) = if (c.getD j zI).f0 = 6 then newsTo c j + 1 else newsTo c j := rfl
  show (if (j : Int) < c.length then (if 0 ≤ (j : Int) then (if (j : Int) < c.length then (if (rd_T79 c (j : Int)).f0 = 6 then (flow_news.l0 (d + 1) (wrap64 ((newsTo c j : Int) + 1)) c c.length (wrap64 ((j : Int) + 1))) else (flow_news.l0 (d + 1) (newsTo c j : Int) c c.length (wrap64 ((j : Int) + 1)))) else none) else none) else some (newsTo c j : Int)) = _
  rw [if_pos (by omega), if_pos (by omega), if_pos (by omega), hx, hw]
  by_cases h6 : (c.getD j zI).f0 = 6
  ·rw [if_pos h6] at hs
   rw [if_pos h6, show wrap64 ((newsTo c j : Int) + 1) = ((newsTo c (j + 1) : Nat) : Int) by rw [hs]; unfold wrap64; omega]
   exact news_run c hc d (j + 1) (by omega)
  ·rw [if_neg h6] at hs
   rw [if_neg h6, ← hs]
   exact news_run c hc d (j + 1) (by omega)
theorem locs_is (f : Fun) (h1 : 0 ≤ f.f1 ∧ f.f1 ≤ 4) (h2 : 0 ≤ f.f2 ∧ f.f2 ≤ 255) (hn : f.f3.length ≤ 4096) : flow_Locations.f (f.f3.length + 2) f.f0 f.f1 f.f2 f.f3 = some (locsF f : Int) := by
 have hle := calls_news f.f3 f.f3.length
 have hf : flow_first.f f.f0 f.f1 f.f2 f.f3 = some (1 + f.f1 + f.f2) := by
  unfold flow_first.f
  congr 1
  unfold wrap64
  omega
 have hnw : flow_news.f (f.f3.length + 1) f.f0 f.f1 f.f2 f.f3 (f.f3.length : Int) = some (newsTo f.f3 f.f3.length : Int) := by
  unfold flow_news.f
  rw [if_pos (by omega), if_pos (by omega), Int.toNat_natCast, List.take_length]
  exact news_run f.f3 hn f.f3.length 0 (by omega)
 unfold flow_Locations.f
 rw [if_neg (by omega), decide_eq_false (by omega)]
 show (if false = true then (some (0 : Int)) else ((flow_first.f f.f0 f.f1 f.f2 f.f3).bind fun t162 => ((flow_news.f (f.f3.length + 1) f.f0 f.f1 f.f2 f.f3 (f.f3.length : Int)).bind fun t163 => (some (wrap64 (t162 + t163)))))) = _
 rw [if_neg (by decide), hf, hnw]
 simp only [Option.bind_some]
 congr 1
 unfold locsF wrap64
 omega
theorem locs_any (f : Fun) (A3 : Option Addr) (c3 : Nat) (w : World) (h3 : k79.C w A3 f.f3.length f.f3) (hc3 : f.f3.length ≤ c3) (h1 : 0 ≤ f.f1 ∧ f.f1 ≤ 4) (h2 : 0 ≤ f.f2 ∧ f.f2 ≤ 255) (hn : f.f3.length ≤ 4096) :
  Calls Tryz.prog 43 #[.agg #[.int .i64 f.f0, .int .i64 f.f1, .int .i64 f.f2, .slice A3 f.f3.length c3]] w fun e w' => e = .returned (.int .i64 (locsF f)) ∧ Below w.heap.size w w' :=
 flow_Locations.calls _ f.f0 f.f1 f.f2 A3 c3 f.f3 _ w h3 hc3 (locs_is f h1 h2 hn)
theorem variable_any (f : Fun) (A3 : Option Addr) (c3 : Nat) (v : Int) (w : World) (h3 : k79.C w A3 f.f3.length f.f3) (hc3 : f.f3.length ≤ c3) (h1 : 0 ≤ f.f1 ∧ f.f1 ≤ 4) (h2 : f.f2 ≤ 255) (hv : 0 ≤ v ∧ v < f.f2) :
  Calls Tryz.prog 46 #[.agg #[.int .i64 f.f0, .int .i64 f.f1, .int .i64 f.f2, .slice A3 f.f3.length c3], .int .i64 v] w fun e w' => e = .returned (.int .i64 (1 + f.f1 + v)) ∧ Below w.heap.size w w' := by
 refine flow_Variable.calls f.f0 f.f1 f.f2 A3 c3 f.f3 v _ w h3 hc3 ?_
 unfold flow_Variable.f
 rw [if_neg (by omega), if_neg (by omega), if_neg (by omega)]
 congr 1
 unfold wrap64
 omega
structure FlowIs (f : Fun) (E : List Edg) (esc : List Bool) (hs : List Int) (rows : List (List Int)) (ress : List (List Int)) (h : List Int) : Prop where
 rl : (ress.length : Int) = f.f1
 rf : ∀ j, j < ress.length → IsFrom (locsF f) E [1 + (j : Int)] (ress.getD j [])
 hp : HeapIs (locsF f) f.f1 E ress esc h
 hl : (hs.length : Int) = f.f0
 wl : (rows.length : Int) = f.f0
 ha : ∀ i, i < hs.length → hs.getD i 0 = max (h.getD (1 + f.f1 + (i : Int)).toNat 9) 0
 wa : ∀ i, i < hs.length → (rows.getD i []).length = ress.length
 wr : ∀ i, i < hs.length → ∀ j, j < ress.length → (rows.getD i []).getD j 0 = max ((ress.getD j []).getD (1 + f.f1 + (i : Int)).toNat 9) 0
def FuncIs (f : Fun) (E : List Edg) (esc : List Bool) (hs : List Int) (rows : List (List Int)) : Prop := ∃ ress h, FlowIs f E esc hs rows ress h
theorem getD_90 {l : List Int} {n j : Nat} (h : l.length = n) (hj : j < n) : l.getD j 9 = l.getD j 0 := by
 rw [List.getD_eq_getElem?_getD, List.getD_eq_getElem?_getD, List.getElem?_eq_getElem (by omega)]; rfl
open Go.RowKit Go.Maps Go.Proofs.YtcbcacbbnojdjaaGreatDoorW.PrintWords Go.Proofs.YtcbcacbbnojdjaaGreatDoorW.PrintLast Go.Proofs.YtcbcacbbnojdjaaGreatDoor.PSolveFunctions
structure ResAt (W : World) (base rb r : Nat) (vs : List Value) (ress : List (List Int)) : Prop where
 hb : W.heap[rb]? = some (.cells (vs ++ List.replicate (r - vs.length) (Value.slice none 0 0)).toArray 31 (0, 0))
 hl : vs.length = ress.length
 hr : ∀ i, i < vs.length → (Kd.int .i64).R 3 W base (fun _ => True) (vs.getD i (Value.slice none 0 0)) (ress.getD i [])
theorem ResAt.below {W W1 : World} {base rb r : Nat} {vs : List Value} {ress : List (List Int)} (h : ResAt W base rb r vs ress) (hb : Below W.heap.size W W1) : ResAt W1 base rb r vs ress :=
 ⟨(hb.block _ (blk_lt h.hb)).trans h.hb, h.hl, fun i hi => Kd.R_below (h.hr i hi) hb⟩
theorem res_set (r : Nat) (vs : List Value) (v : Value) (h : vs.length < r) : (vs ++ List.replicate (r - vs.length) (Value.slice none 0 0)).set vs.length v = (vs ++ [v]) ++ List.replicate (r - (vs ++ [v]).length) (Value.slice none 0 0) := by
 obtain ⟨d, rfl⟩ : ∃ d, r = vs.length + (d + 1) := ⟨r - vs.length - 1, by omega⟩
 rw [show vs.length + (d + 1) - vs.length = d + 1 by omega, List.length_append, List.length_singleton, show vs.length + (d + 1) - (vs.length + 1) = d by omega, List.replicate_succ]
 rw [List.set_append_right _ _ (Nat.le_refl _)]
 simp
theorem ResAt.more {W W1 : World} {base rb r : Nat} {vs : List Value} {ress : List (List Int)} (h : ResAt W base rb r vs ress) (hb : Below W.heap.size W W1) {v : Value} {l : List Int} (hv : (Kd.int .i64).R 3 W1 base (fun _ => True) v l) (hl : vs.length < r) : ResAt (W1.setCell ⟨rb, vs.length, none⟩ v) base rb r (vs ++ [v]) (ress ++ [l]) := by
 have h1 := h.below hb
 have hset : ∀ {u : Value} {x : List Int}, (Kd.int .i64).R 3 W1 base (fun _ => True) u x → (Kd.int .i64).R 3 (W1.setCell ⟨rb, vs.length, none⟩ v) base (fun _ => True) u x := fun hu => Kd.R_set hu h1.hb (fun q hq => by
  rcases List.mem_cons.1 hq with rfl | hq
  ·decide
  ·cases hq) _ _
 refine ⟨blk_put h1.hb vs.length _ ?_, by simp [h.hl], fun i hi => ?_⟩
 ·rw [List.setIfInBounds_toArray, res_set r vs v hl]
 ·rw [List.length_append, List.length_singleton] at hi
  by_cases hil : i < vs.length
  ·have := hset (h1.hr i hil)
   rwa [show (vs ++ [v]).getD i (Value.slice none 0 0) = vs.getD i (Value.slice none 0 0) by rw [List.getD_eq_getElem?_getD, List.getD_eq_getElem?_getD, List.getElem?_append_left hil], show (ress ++ [l]).getD i [] = ress.getD i [] by rw [List.getD_eq_getElem?_getD, List.getD_eq_getElem?_getD, List.getElem?_append_left (by rw [← h.hl]; exact hil)]]
  ·obtain rfl : i = vs.length := by omega
   have := hset hv
   rw [show (vs ++ [v]).getD vs.length (Value.slice none 0 0) = v by simp, show (ress ++ [l]).getD vs.length [] = l by rw [h.hl]; simp]
   exact this
theorem ResAt.rows {W : World} {base rb r : Nat} {vs : List Value} {ress : List (List Int)} (h : ResAt W base rb r vs ress) (hr : ress.length ≤ 4) : (Kd.slice 3 (Kd.int .i64)).C W (some ⟨rb, 0, none⟩) ress.length ress := by
 refine ⟨rfl, by omega, fun _ => ⟨_, rfl, fun j x hj => ?_⟩⟩
 have hjl : j < ress.length := (List.getElem?_eq_some_iff.1 hj).1
 have hx : ress.getD j [] = x := by rw [List.getD_eq_getElem?_getD, hj]; rfl
 have hR := h.hr j (by rw [h.hl]; exact hjl)
 rw [hx] at hR
 obtain ⟨A, c, he, hc, hC⟩ := Kd.R_reads hR
 refine ⟨[vs.getD j (Value.slice none 0 0)], rfl, ⟨A, c, by rw [he], hc, hC⟩, fun i u hu => ?_⟩
 have hi := (List.getElem?_eq_some_iff.1 hu).1
 obtain rfl : i = 0 := by simp at hi; exact hi
 obtain rfl : vs.getD j (Value.slice none 0 0) = u := by simpa using hu
 have hjv : j < vs.length := by rw [h.hl]; exact hjl
 have hbc := blk_cell h.hb j
 rw [List.getElem?_toArray, List.getElem?_append_left hjv, List.getElem?_eq_getElem hjv] at hbc
 have e1 : vs.getD j (Value.slice none 0 0) = vs[j] := by rw [List.getD_eq_getElem?_getD, List.getElem?_eq_getElem hjv]; rfl
 rw [e1]
 rw [show (Addr.add ⟨rb, 0, none⟩ (j * (Kd.slice 3 (Kd.int .i64)).sz + 0)) = ⟨rb, j, none⟩ by
  show Addr.add ⟨rb, 0, none⟩ (j * 1 + 0) = _
  simp [Addr.add]
  exact fun e => e.symm]
 exact hbc
theorem SumAt.setH {W : World} {base hb ob r p : Nat} {bs : List Nat} {hs : List Int} {rows : List (List Int)} (h : SumAt W base hb ob r p bs hs rows) (i : Nat) (x : Int) : SumAt (W.setCell ⟨hb, i, none⟩ (.int .i64 x)) base hb ob r p bs (hs.set i x) rows := by
 have hne : ob ≠ hb := by
  rintro rfl
  have h2 : W.heap[ob]? = _ := h.hn
  rw [h.ho] at h2
  injection h2 with h2
  injection h2 with _ h2 _
  exact absurd h2 (by decide)
 exact ⟨h.hn.set i x, (Below.heap_setCell W ⟨hb, i, none⟩ _ ob hne).trans h.ho, h.lb, fun k hk => (h.rw_ k hk).far (Below.heap_setCell W ⟨hb, i, none⟩ _ _ (h.nh k (by rw [h.lb]; exact hk))), h.nd, h.nh, h.l0, h.l1, h.l2⟩
theorem SumAt.setR {W : World} {base hb ob r p : Nat} {bs : List Nat} {hs : List Int} {rows : List (List Int)} (h : SumAt W base hb ob r p bs hs rows) (i : Nat) (hi : i < rows.length) (j : Nat) (x : Int) : SumAt (W.setCell ⟨bs.getD i 0, j, none⟩ (.int .i64 x)) base hb ob r p bs hs (rows.set i ((rows.getD i []).set j x)) := by
 have hib : i < bs.length := by rw [h.lb]; exact hi
 have hne : ob ≠ bs.getD i 0 := by
  intro e
  have h2 : W.heap[bs.getD i 0]? = _ := h.rw_ i hi
  rw [← e, h.ho] at h2
  injection h2 with h2
  injection h2 with _ h2 _
  exact absurd h2 (by decide)
 refine ⟨h.hn.far (Below.heap_setCell W ⟨bs.getD i 0, j, none⟩ _ _ (fun e => h.nh i hib e.symm)), (Below.heap_setCell W ⟨bs.getD i 0, j, none⟩ _ ob hne).trans h.ho, by rw [h.lb, List.length_set], fun k hk => ?_, h.nd, h.nh, h.l0, h.l1, h.l2⟩
 rw [List.length_set] at hk
 by_cases hki : k = i
 ·subst hki
  rw [show (rows.set k ((rows.getD k []).set j x)).getD k [] = (rows.getD k []).set j x by rw [List.getD_eq_getElem?_getD, List.getElem?_set_self hk]; rfl]
  exact (h.rw_ k hk).set j x
 ·rw [show (rows.set i ((rows.getD i []).set j x)).getD k [] = rows.getD k [] by rw [List.getD_eq_getElem?_getD, List.getElem?_set_ne (fun e => hki e.symm), ← List.getD_eq_getElem?_getD]]
  exact (h.rw_ k hk).far (Below.heap_setCell W ⟨bs.getD i 0, j, none⟩ _ _ (fun e => hki (h.nd k i (by rw [h.lb]; exact hk) hib e)))
structure FillAt (p r : Nat) (h : List Int) (ress : List (List Int)) (i : Nat) (hs : List Int) (rows : List (List Int)) : Prop where
 hl : hs.length = p
 wl : rows.length = p
 rl : ∀ k, k < p → (rows.getD k []).length = r
 ha : ∀ k, k < i → hs.getD k 0 = max (h.getD (1 + r + k) 9) 0
 wr : ∀ k, k < i → ∀ j, j < r → (rows.getD k []).getD j 0 = max ((ress.getD j []).getD (1 + r + k) 9) 0
structure RowTo (p r : Nat) (h : List Int) (ress : List (List Int)) (i j : Nat) (hs : List Int) (rows : List (List Int)) : Prop where
 f : FillAt p r h ress i hs rows
 a : hs.getD i 0 = max (h.getD (1 + r + i) 9) 0
 w : ∀ k, k < j → (rows.getD i []).getD k 0 = max ((ress.getD k []).getD (1 + r + i) 9) 0
theorem FillAt.start (p r : Nat) (h : List Int) (ress : List (List Int)) : FillAt p r h ress 0 (List.replicate p 9) (List.replicate p (List.replicate r 9)) :=
 ⟨by simp, by simp, fun k hk => by rw [List.getD_eq_getElem?_getD, List.getElem?_replicate, if_pos hk]; simp, fun k hk => absurd hk (by omega), fun k hk => absurd hk (by omega)⟩
theorem getD0_set (l : List Int) (i j : Nat) (v : Int) (hi : i < l.length) : (l.set i v).getD j 0 = if j = i then v else l.getD j 0 := by
 simp only [List.getD_eq_getElem?_getD, List.getElem?_set]
 by_cases h : i = j
 ·subst h; simp [hi]
 ·rw [if_neg h, if_neg (fun e => h e.symm)]
theorem getDr_set (l : List (List Int)) (i j : Nat) (v : List Int) (hi : i < l.length) : (l.set i v).getD j [] = if j = i then v else l.getD j [] := by
 simp only [List.getD_eq_getElem?_getD, List.getElem?_set]
 by_cases h : i = j
 ·subst h; simp [hi]
 ·rw [if_neg h, if_neg (fun e => h e.symm)]
theorem FillAt.heap {p r : Nat} {h : List Int} {ress : List (List Int)} {i : Nat} {hs : List Int} {rows : List (List Int)} (a : FillAt p r h ress i hs rows) (hi : i < p) : RowTo p r h ress i 0 (hs.set i (max (h.getD (1 + r + i) 9) 0)) rows := by
 have hl := a.hl
 refine ⟨⟨by rw [List.length_set]; exact hl, a.wl, a.rl, fun k hk => ?_, a.wr⟩, ?_, fun k hk => absurd hk (by omega)⟩
 ·rw [getD0_set _ _ _ _ (by omega), if_neg (by omega)]; exact a.ha k hk
 ·rw [getD0_set _ _ _ _ (by omega), if_pos rfl]
theorem RowTo.row {p r : Nat} {h : List Int} {ress : List (List Int)} {i j : Nat} {hs : List Int} {rows : List (List Int)} (a : RowTo p r h ress i j hs rows) (hi : i < p) (hj : j < r) : RowTo p r h ress i (j + 1) hs (rows.set i ((rows.getD i []).set j (max ((ress.getD j []).getD (1 + r + i) 9) 0))) := by
 have hl := a.f.wl
 have hrl := a.f.rl i hi
 refine ⟨⟨a.f.hl, by rw [List.length_set]; exact hl, fun k hk => ?_, a.f.ha, fun k hk j' hj' => ?_⟩, a.a, fun k hk => ?_⟩
 ·rw [getDr_set _ _ _ _ (by omega)]
  split
  ·rw [List.length_set]; exact hrl
  ·exact a.f.rl k hk
 ·rw [getDr_set _ _ _ _ (by omega), if_neg (by omega)]; exact a.f.wr k hk j' hj'
 ·rw [getDr_set _ _ _ _ (by omega), if_pos rfl, getD0_set _ _ _ _ (by omega)]
  split
  ·subst k; rfl
  ·exact a.w k (by omega)
theorem RowTo.done {p r : Nat} {h : List Int} {ress : List (List Int)} {i : Nat} {hs : List Int} {rows : List (List Int)} (a : RowTo p r h ress i r hs rows) : FillAt p r h ress (i + 1) hs rows := by
 refine ⟨a.f.hl, a.f.wl, a.f.rl, fun k hk => ?_, fun k hk j hj => ?_⟩
 ·by_cases hki : k = i
  ·subst hki; exact a.a
  ·exact a.f.ha k (by omega)
 ·by_cases hki : k = i
  ·subst hki; exact a.w j hj
  ·exact a.f.wr k (by omega) j hj
theorem FillAt.func {f : Fun} {E : List Edg} {esc : List Bool} {p r : Nat} {h : List Int} {ress : List (List Int)} {hs : List Int} {rows : List (List Int)} (a : FillAt p r h ress p hs rows) (hp : f.f0 = p) (hr : f.f1 = r) (hl : ress.length = r) (hf : ∀ j, j < r → IsFrom (locsF f) E [1 + (j : Int)] (ress.getD j [])) (hh : HeapIs (locsF f) r E ress esc h) : FuncIs f E esc hs rows := by
 have e1 := a.hl
 have e2 := a.wl
 have e3 : ∀ i : Nat, (1 + f.f1 + (i : Int)).toNat = 1 + r + i := fun i => by omega
 refine ⟨ress, h, ⟨by omega, fun j hj => hf j (by omega), by rw [hr]; exact hh, by omega, by omega, fun i hi => ?_, fun i hi => ?_, fun i hi j hj => ?_⟩⟩
 ·rw [e3]; exact a.ha i (by omega)
 ·rw [a.rl i (by omega), hl]
 ·rw [e3]; exact a.wr i (by omega) j (by omega)
abbrev zE : Edg := z144
structure Nv (n : Nat) (E : List Edg) (R l : List Int) (i : Nat) (more : Bool) : Prop where
 len : l.length = n
 inw : ∀ x, InW (l.getD x 9)
 top : ∀ g, Clo E R g → ∀ x, g x ≤ l.getD x 9
 root : ∀ r ∈ R, l.getD r.toNat 9 ≤ 0
 quiet : more = false → ∀ j, j < i → l.getD (E.getD j zE).f1.toNat 9 ≤ plus (l.getD (E.getD j zE).f0.toNat 9) (E.getD j zE).f2
theorem getD_memE {E : List Edg} {i : Nat} (hi : i < E.length) : E.getD i zE ∈ E := by
 rw [List.getD_eq_getElem?_getD, List.getElem?_eq_getElem hi]; exact List.getElem_mem hi
theorem Nv.next {n : Nat} {E : List Edg} {R l : List Int} {i : Nat} {more : Bool} (h : Nv n E R l i more) : Nv n E R l 0 false := ⟨h.len, h.inw, h.top, h.root, fun _ j hj => absurd hj (by omega)⟩
theorem Nv.keep {n : Nat} {E : List Edg} {R l : List Int} {i : Nat} {more : Bool} (h : Nv n E R l i more) (hd : l.getD (E.getD i zE).f1.toNat 9 ≤ plus (l.getD (E.getD i zE).f0.toNat 9) (E.getD i zE).f2) : Nv n E R l (i + 1) more :=
 ⟨h.len, h.inw, h.top, h.root, fun hm j hj => by
  by_cases hji : j = i
  ·subst hji; exact hd
  ·exact h.quiet hm j (by omega)⟩
theorem Nv.lower {n : Nat} {E : List Edg} {R l : List Int} {i : Nat} {more : Bool} (h : Nv n E R l i more) (hE : ∀ e ∈ E, okE n e) (hi : i < E.length) (hd : plus (l.getD (E.getD i zE).f0.toNat 9) (E.getD i zE).f2 < l.getD (E.getD i zE).f1.toNat 9) :
  Nv n E R (l.set (E.getD i zE).f1.toNat (plus (l.getD (E.getD i zE).f0.toNat 9) (E.getD i zE).f2)) (i + 1) true ∧ fall (l.set (E.getD i zE).f1.toNat (plus (l.getD (E.getD i zE).f0.toNat 9) (E.getD i zE).f2)) + 1 ≤ fall l := by
 have he := getD_memE hi
 generalize E.getD i zE = e at *
 have hok := hE e he
 unfold okE at hok
 have hl := h.len
 have hix : e.f1.toNat < l.length := by omega
 have hp := plus_inw (l.getD e.f0.toNat 9) e.f2
 refine ⟨⟨by rw [List.length_set]; exact hl, fun x => ?_, fun g hg x => ?_, fun r hr => ?_, fun hm => by cases hm⟩, fall_lower hix (by unfold InW at hp; omega) hd⟩
 ·rw [getD_set _ _ _ _ hix]
  split
  ·exact hp
  ·exact h.inw x
 ·rw [getD_set _ _ _ _ hix]
  split
  ·subst x
   exact Int.le_trans (hg.edge e he) (plus_mono (hg.inw _) (h.inw _) (.inl (by omega)) (.inl (by omega)) (h.top g hg _) (Int.le_refl _))
  ·exact h.top g hg x
 ·have := h.root r hr
  rw [getD_set _ _ _ _ hix]
  split
  ·rename_i hx; rw [hx] at this; omega
  ·exact this
theorem Nv.done {n : Nat} {E : List Edg} {R l : List Int} (h : Nv n E R l E.length false) : IsFrom n E R l :=
 ⟨h.len, ⟨h.inw, h.root, fun e he => by
  obtain ⟨j, hj, rfl⟩ := List.getElem_of_mem he
  have := h.quiet rfl j hj
  rwa [List.getD_eq_getElem?_getD (l := E), List.getElem?_eq_getElem hj] at this⟩, h.top⟩
theorem Rooted.naive {n : Nat} {E : List Edg} {R l q : List Int} (h : Rooted n l q) (hE : ∀ e ∈ E, okE n e) (hR : ∀ r ∈ R, 0 ≤ r ∧ r ∈ q) (hq : ∀ r ∈ q, r ∈ R) (m : Bool) : Nv n E R l 0 m :=
 have w := h.work hE hR hq
 ⟨h.len, w.inw, w.top, w.root, fun _ j hj => absurd hj (by omega)⟩
def qTo (R : List Int) : Nat → List Int
 | 0 => []
 | k + 1 => addQ (qTo R k) (R.getD k 0)
theorem mem_qTo {R : List Int} {x : Int} : ∀ k, k ≤ R.length → (x ∈ qTo R k ↔ x ∈ R.take k)
 | 0, _ => by simp [qTo]
 | k + 1, hk => by
  unfold qTo
  rw [mem_addQ, mem_qTo k (by omega), List.take_succ_eq_append_getElem (show k < R.length by omega), List.getD_eq_getElem?_getD, List.getElem?_eq_getElem (show k < R.length by omega), List.mem_append, List.mem_singleton]
  rfl
end Go.Proofs.YtcbcacbbnojdjaaGreatDoor
