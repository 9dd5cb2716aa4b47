/-
  Part R of what the law's proof needs: walks of the program's functions and the plain laws of what they tell. No condition.
-/
import Derived.Test.YtcbcacbbnojdjaaDoorNgB
import Derived.Test.YtcbcacbbnojdjaaDoorNgQ
import Derived.Test.YtcbcacbbnojdjaaDoorNgM
import Derived.Test.YtcbcacbbnojdjaaDoorNgC
namespace Go.Proofs.YtcbcacbbnojdjaaDoor
open Go.RowKit Go.Proofs.YtcbcacbbnojdjaaDoorW.PrintWords Go.Proofs.YtcbcacbbnojdjaaDoor.PSolveMonotone
set_option linter.unusedVariables false
set_option linter.unusedSimpArgs false
theorem news_run (c : List Ins) (hc : c.length ≤ 4096) : ∀ (d j : Nat), j + d = c.length → flow_news.l0 (d + 1) (newsTo c j : Int) c (c.length : Int) (j : Int) = some (newsTo c c.length : Int)
  | 0, j, h => by
    obtain rfl : c.length = j := by omega
    show (if (c.length : Int) < c.length then _ else some (newsTo c c.length : Int)) = _
    rw [if_neg (by omega)]
  | d + 1, j, h => by
    have hw : wrap64 ((j : Int) + 1) = ((j + 1 : Nat) : Int) := by unfold wrap64; omega
    have hle := calls_news c j
    have hx : (rd_T52 c (j : Int)) = c.getD j zI := by rw [rd_T52, Int.toNat_natCast]
    have hs : newsTo c (j + 1) = if (c.getD j zI).f0 = 6 then newsTo c j + 1 else newsTo c j := rfl
    show (if (j : Int) < c.length then (if 0 ≤ (j : Int) then (if (j : Int) < c.length then (if (rd_T52 c (j : Int)).f0 = 6 then (flow_news.l0 (d + 1) (wrap64 ((newsTo c j : Int) + 1)) c c.length (wrap64 ((j : Int) + 1))) else (flow_news.l0 (d + 1) (newsTo c j : Int) c c.length (wrap64 ((j : Int) + 1)))) else none) else none) else some (newsTo c j : Int)) = _
    rw [if_pos (by omega), if_pos (by omega), if_pos (by omega), hx, hw]
    by_cases h6 : (c.getD j zI).f0 = 6
    · rw [if_pos h6] at hs
      rw [if_pos h6, show wrap64 ((newsTo c j : Int) + 1) = ((newsTo c (j + 1) : Nat) : Int) by rw [hs]; unfold wrap64; omega]
      exact news_run c hc d (j + 1) (by omega)
    · rw [if_neg h6] at hs
      rw [if_neg h6, ← hs]
      exact news_run c hc d (j + 1) (by omega)
theorem locs_is (f : Fun) (h1 : 0 ≤ f.f1 ∧ f.f1 ≤ 4) (h2 : 0 ≤ f.f2 ∧ f.f2 ≤ 255) (hn : f.f3.length ≤ 4096) : flow_Locations.f (f.f3.length + 2) f.f0 f.f1 f.f2 f.f3 = some (locsF f : Int) := by
  have hle := calls_news f.f3 f.f3.length
  have hf : flow_first.f f.f0 f.f1 f.f2 f.f3 = some (1 + f.f1 + f.f2) := by
    unfold flow_first.f
    congr 1
    unfold wrap64
    omega
  have hnw : flow_news.f (f.f3.length + 1) f.f0 f.f1 f.f2 f.f3 (f.f3.length : Int) = some (newsTo f.f3 f.f3.length : Int) := by
    unfold flow_news.f
    rw [if_pos (by omega), if_pos (by omega), Int.toNat_natCast, List.take_length]
    exact news_run f.f3 hn f.f3.length 0 (by omega)
  unfold flow_Locations.f
  rw [if_neg (by omega), decide_eq_false (by omega)]
  show (if false = true then (some (0 : Int)) else ((flow_first.f f.f0 f.f1 f.f2 f.f3).bind fun t162 => ((flow_news.f (f.f3.length + 1) f.f0 f.f1 f.f2 f.f3 (f.f3.length : Int)).bind fun t163 => (some (wrap64 (t162 + t163)))))) = _
  rw [if_neg (by decide), hf, hnw]
  simp only [Option.bind_some]
  congr 1
  unfold locsF wrap64
  omega
theorem locs_any (f : Fun) (A3 : Option Addr) (c3 : Nat) (w : World) (h3 : k52.C w A3 f.f3.length f.f3) (hc3 : f.f3.length ≤ c3) (h1 : 0 ≤ f.f1 ∧ f.f1 ≤ 4) (h2 : 0 ≤ f.f2 ∧ f.f2 ≤ 255) (hn : f.f3.length ≤ 4096) :
    Calls Tryd.prog 24 #[.agg #[.int .i64 f.f0, .int .i64 f.f1, .int .i64 f.f2, .slice A3 f.f3.length c3]] w fun e w' => e = .returned (.int .i64 (locsF f)) ∧ Below w.heap.size w w' :=
  flow_Locations.calls _ f.f0 f.f1 f.f2 A3 c3 f.f3 _ w h3 hc3 (locs_is f h1 h2 hn)
theorem variable_any (f : Fun) (A3 : Option Addr) (c3 : Nat) (v : Int) (w : World) (h3 : k52.C w A3 f.f3.length f.f3) (hc3 : f.f3.length ≤ c3) (h1 : 0 ≤ f.f1 ∧ f.f1 ≤ 4) (h2 : f.f2 ≤ 255) (hv : 0 ≤ v ∧ v < f.f2) :
    Calls Tryd.prog 27 #[.agg #[.int .i64 f.f0, .int .i64 f.f1, .int .i64 f.f2, .slice A3 f.f3.length c3], .int .i64 v] w fun e w' => e = .returned (.int .i64 (1 + f.f1 + v)) ∧ Below w.heap.size w w' := by
  refine flow_Variable.calls f.f0 f.f1 f.f2 A3 c3 f.f3 v _ w h3 hc3 ?_
  unfold flow_Variable.f
  rw [if_neg (by omega), if_neg (by omega), if_neg (by omega)]
  congr 1
  unfold wrap64
  omega
end Go.Proofs.YtcbcacbbnojdjaaDoor
namespace Go.Proofs.YtcbcacbbnojdjaaDoor
open Go.RowKit Go.Proofs.YtcbcacbbnojdjaaDoorW.PrintWords Go.Proofs.YtcbcacbbnojdjaaDoor.PSolveMonotone
set_option linter.unusedVariables false
set_option linter.unusedSimpArgs false
/-- What Function answers of a function with these edges, by the flows to the results and the heap. -/
structure FlowIs (f : Fun) (E : List Edg) (esc : List Bool) (hs : List Int) (rows : List (List Int)) (ress : List (List Int)) (h : List Int) : Prop where
  rl : (ress.length : Int) = f.f1
  rf : ∀ j, j < ress.length → IsFrom (locsF f) E [1 + (j : Int)] (ress.getD j [])
  hp : HeapIs (locsF f) f.f1 E ress esc h
  hl : (hs.length : Int) = f.f0
  wl : (rows.length : Int) = f.f0
  ha : ∀ i, i < hs.length → hs.getD i 0 = max (h.getD (1 + f.f1 + (i : Int)).toNat 9) 0
  wa : ∀ i, i < hs.length → (rows.getD i []).length = ress.length
  wr : ∀ i, i < hs.length → ∀ j, j < ress.length → (rows.getD i []).getD j 0 = max ((ress.getD j []).getD (1 + f.f1 + (i : Int)).toNat 9) 0
/-- What Function answers of a function with these edges. -/
def FuncIs (f : Fun) (E : List Edg) (esc : List Bool) (hs : List Int) (rows : List (List Int)) : Prop := ∃ ress h, FlowIs f E esc hs rows ress h
theorem getD_90 {l : List Int} {n j : Nat} (h : l.length = n) (hj : j < n) : l.getD j 9 = l.getD j 0 := by
  rw [List.getD_eq_getElem?_getD, List.getD_eq_getElem?_getD, List.getElem?_eq_getElem (by omega)]; rfl
/-- More edges: no fewer escape, no number is greater. -/
structure SaysMore (esc esc' : List Bool) (hs hs' : List Int) (rows rows' : List (List Int)) : Prop where
  e : ∀ j, esc.getD j false = true → esc'.getD j false = true
  hl : hs'.length = hs.length
  wl : rows'.length = rows.length
  rl : rows.length = hs.length
  h : ∀ i, i < hs.length → hs'.getD i 0 ≤ hs.getD i 0
  w : ∀ i, i < hs.length → (rows'.getD i []).length = (rows.getD i []).length
  r : ∀ i, i < hs.length → ∀ j, j < (rows.getD i []).length → (rows'.getD i []).getD j 0 ≤ (rows.getD i []).getD j 0
theorem FuncIs.mono {f f' : Fun} {E E' : List Edg} {esc esc' : List Bool} {hs hs' : List Int} {rows rows' : List (List Int)} (a : FuncIs f E esc hs rows) (b : FuncIs f' E' esc' hs' rows') (h0 : f'.f0 = f.f0) (h1 : f'.f1 = f.f1) (hn : locsF f ≤ locsF f') (hE : ∀ e ∈ E, okE (locsF f) e) (hE' : ∀ e ∈ E', okE (locsF f') e) (hle : LeE E E') : SaysMore esc esc' hs hs' rows rows' := by
  obtain ⟨ress, h, a⟩ := a
  obtain ⟨ress', h', b⟩ := b
  have al := a.rl; have bl := b.rl
  rw [h1] at bl
  have ahl := a.hl; have bhl := b.hl; have awl := a.wl; have bwl := b.wl
  rw [h0] at bhl bwl
  have hbhp := b.hp
  rw [h1] at hbhp
  have hres : ∀ j, j < ress.length → ∀ x, (ress'.getD j []).getD x 9 ≤ (ress.getD j []).getD x 9 := fun j hj x =>
    (a.rf j hj).mono (b.rf j (by omega)) (fun r hr => hr) hE hE' hle x
  have hesc : ∀ j, esc.getD j false = true → esc'.getD j false = true := by
    refine a.hp.mono hbhp hn hE hE' hle (fun fl hfl => ?_)
    obtain ⟨k, hk, rfl⟩ := List.getElem_of_mem hfl
    have hk' : k < ress'.length := by omega
    refine ⟨ress'[k], List.getElem_mem _, fun j hj hm1 => ?_⟩
    have h1' := hres k hk j
    have h2 := (b.rf k hk').clo.inw j
    have e1 : ress.getD k [] = ress[k] := by rw [List.getD_eq_getElem?_getD, List.getElem?_eq_getElem hk]; rfl
    have e2 : ress'.getD k [] = ress'[k] := by rw [List.getD_eq_getElem?_getD, List.getElem?_eq_getElem hk']; rfl
    have l1 := (a.rf k hk).len
    have l2 := (b.rf k hk').len
    rw [e1] at h1' l1
    rw [e2] at h1' l2
    have h2' : InW ((ress'.getD k []).getD j 9) := h2
    rw [e2, getD_90 l2 (by omega)] at h2'
    rw [getD_90 l1 hj, getD_90 l2 (by omega)] at h1'
    unfold InW at h2'
    omega
  have hheap : ∀ x, h'.getD x 9 ≤ h.getD x 9 := by
    refine a.hp.frm.mono b.hp.frm (fun x hx => ?_) hE hE' hle
    rcases (mem_roots esc x _).1 hx with h0 | ⟨k, hk, hk2, h0⟩
    · exact (mem_roots esc' x _).2 (.inl h0)
    · exact (mem_roots esc' x _).2 (.inr ⟨k, by have := b.hp.len; have := a.hp.len; omega, hesc k hk2, h0⟩)
  refine ⟨hesc, by omega, by omega, by omega, fun i hi => ?_, fun i hi => ?_, fun i hi j hj => ?_⟩
  · rw [a.ha i hi, b.ha i (by omega), h1]
    have := hheap (1 + f.f1 + (i : Int)).toNat
    omega
  · rw [a.wa i hi, b.wa i (by omega)]; omega
  · rw [a.wa i hi] at hj
    rw [a.wr i hi j hj, b.wr i (by omega) j (by omega), h1]
    have := hres j hj (1 + f.f1 + (i : Int)).toNat
    omega
end Go.Proofs.YtcbcacbbnojdjaaDoor
namespace Go.Proofs.YtcbcacbbnojdjaaDoor
open Go.RowKit Go.Maps Go.Proofs.YtcbcacbbnojdjaaDoorW.PrintWords Go.Proofs.YtcbcacbbnojdjaaDoorW.PrintLast Go.Proofs.YtcbcacbbnojdjaaDoor.PSolveMonotone
set_option linter.unusedVariables false
set_option linter.unusedSimpArgs false
/-- Rows of results: the first ones are there. -/
structure ResAt (W : World) (base rb r : Nat) (vs : List Value) (ress : List (List Int)) : Prop where
  hb : W.heap[rb]? = some (.cells (vs ++ List.replicate (r - vs.length) (Value.slice none 0 0)).toArray 30 (0, 0))
  hl : vs.length = ress.length
  hr : ∀ i, i < vs.length → (Kd.int .i64).R 3 W base (fun _ => True) (vs.getD i (Value.slice none 0 0)) (ress.getD i [])
theorem ResAt.below {W W1 : World} {base rb r : Nat} {vs : List Value} {ress : List (List Int)} (h : ResAt W base rb r vs ress) (hb : Below W.heap.size W W1) : ResAt W1 base rb r vs ress :=
  ⟨(hb.block _ (blk_lt h.hb)).trans h.hb, h.hl, fun i hi => Kd.R_below (h.hr i hi) hb⟩
theorem res_set (r : Nat) (vs : List Value) (v : Value) (h : vs.length < r) : (vs ++ List.replicate (r - vs.length) (Value.slice none 0 0)).set vs.length v = (vs ++ [v]) ++ List.replicate (r - (vs ++ [v]).length) (Value.slice none 0 0) := by
  obtain ⟨d, rfl⟩ : ∃ d, r = vs.length + (d + 1) := ⟨r - vs.length - 1, by omega⟩
  rw [show vs.length + (d + 1) - vs.length = d + 1 by omega, List.length_append, List.length_singleton, show vs.length + (d + 1) - (vs.length + 1) = d by omega, List.replicate_succ]
  rw [List.set_append_right _ _ (Nat.le_refl _)]
  simp
theorem ResAt.more {W W1 : World} {base rb r : Nat} {vs : List Value} {ress : List (List Int)} (h : ResAt W base rb r vs ress) (hb : Below W.heap.size W W1) {v : Value} {l : List Int} (hv : (Kd.int .i64).R 3 W1 base (fun _ => True) v l) (hl : vs.length < r) : ResAt (W1.setCell ⟨rb, vs.length, none⟩ v) base rb r (vs ++ [v]) (ress ++ [l]) := by
  have h1 := h.below hb
  have hset : ∀ {u : Value} {x : List Int}, (Kd.int .i64).R 3 W1 base (fun _ => True) u x → (Kd.int .i64).R 3 (W1.setCell ⟨rb, vs.length, none⟩ v) base (fun _ => True) u x := fun hu => Kd.R_set hu h1.hb (fun q hq => by
    rcases List.mem_cons.1 hq with rfl | hq
    · decide
    · cases hq) _ _
  refine ⟨blk_put h1.hb vs.length _ ?_, by simp [h.hl], fun i hi => ?_⟩
  · rw [List.setIfInBounds_toArray, res_set r vs v hl]
  · rw [List.length_append, List.length_singleton] at hi
    by_cases hil : i < vs.length
    · have := hset (h1.hr i hil)
      rwa [show (vs ++ [v]).getD i (Value.slice none 0 0) = vs.getD i (Value.slice none 0 0) by rw [List.getD_eq_getElem?_getD, List.getD_eq_getElem?_getD, List.getElem?_append_left hil], show (ress ++ [l]).getD i [] = ress.getD i [] by rw [List.getD_eq_getElem?_getD, List.getD_eq_getElem?_getD, List.getElem?_append_left (by rw [← h.hl]; exact hil)]]
    · obtain rfl : i = vs.length := by omega
      have := hset hv
      rw [show (vs ++ [v]).getD vs.length (Value.slice none 0 0) = v by simp, show (ress ++ [l]).getD vs.length [] = l by rw [h.hl]; simp]
      exact this
theorem ResAt.rows {W : World} {base rb r : Nat} {vs : List Value} {ress : List (List Int)} (h : ResAt W base rb r vs ress) (hr : ress.length ≤ 4) : (Kd.slice 3 (Kd.int .i64)).C W (some ⟨rb, 0, none⟩) ress.length ress := by
  refine ⟨rfl, by omega, fun _ => ⟨_, rfl, fun j x hj => ?_⟩⟩
  have hjl : j < ress.length := (List.getElem?_eq_some_iff.1 hj).1
  have hx : ress.getD j [] = x := by rw [List.getD_eq_getElem?_getD, hj]; rfl
  have hR := h.hr j (by rw [h.hl]; exact hjl)
  rw [hx] at hR
  obtain ⟨A, c, he, hc, hC⟩ := Kd.R_reads hR
  refine ⟨[vs.getD j (Value.slice none 0 0)], rfl, ⟨A, c, by rw [he], hc, hC⟩, fun i u hu => ?_⟩
  have hi := (List.getElem?_eq_some_iff.1 hu).1
  obtain rfl : i = 0 := by simp at hi; exact hi
  obtain rfl : vs.getD j (Value.slice none 0 0) = u := by simpa using hu
  have hjv : j < vs.length := by rw [h.hl]; exact hjl
  have hbc := blk_cell h.hb j
  rw [List.getElem?_toArray, List.getElem?_append_left hjv, List.getElem?_eq_getElem hjv] at hbc
  have e1 : vs.getD j (Value.slice none 0 0) = vs[j] := by rw [List.getD_eq_getElem?_getD, List.getElem?_eq_getElem hjv]; rfl
  rw [e1]
  rw [show (Addr.add ⟨rb, 0, none⟩ (j * (Kd.slice 3 (Kd.int .i64)).sz + 0)) = ⟨rb, j, none⟩ by
    show Addr.add ⟨rb, 0, none⟩ (j * 1 + 0) = _
    simp [Addr.add]
    exact fun e => e.symm]
  exact hbc
/-- A number of the summary's first list is written. -/
theorem SumAt.setH {W : World} {base hb ob r p : Nat} {bs : List Nat} {hs : List Int} {rows : List (List Int)} (h : SumAt W base hb ob r p bs hs rows) (i : Nat) (x : Int) : SumAt (W.setCell ⟨hb, i, none⟩ (.int .i64 x)) base hb ob r p bs (hs.set i x) rows := by
  have hne : ob ≠ hb := by
    rintro rfl
    have h2 : W.heap[ob]? = _ := h.hn
    rw [h.ho] at h2
    injection h2 with h2
    injection h2 with _ h2 _
    exact absurd h2 (by decide)
  exact ⟨h.hn.set i x, (Below.heap_setCell W ⟨hb, i, none⟩ _ ob hne).trans h.ho, h.lb, fun k hk => (h.rw_ k hk).far (Below.heap_setCell W ⟨hb, i, none⟩ _ _ (h.nh k (by rw [h.lb]; exact hk))), h.nd, h.nh, h.l0, h.l1, h.l2⟩
/-- A number of one of its rows is written. -/
theorem SumAt.setR {W : World} {base hb ob r p : Nat} {bs : List Nat} {hs : List Int} {rows : List (List Int)} (h : SumAt W base hb ob r p bs hs rows) (i : Nat) (hi : i < rows.length) (j : Nat) (x : Int) : SumAt (W.setCell ⟨bs.getD i 0, j, none⟩ (.int .i64 x)) base hb ob r p bs hs (rows.set i ((rows.getD i []).set j x)) := by
  have hib : i < bs.length := by rw [h.lb]; exact hi
  have hne : ob ≠ bs.getD i 0 := by
    intro e
    have h2 : W.heap[bs.getD i 0]? = _ := h.rw_ i hi
    rw [← e, h.ho] at h2
    injection h2 with h2
    injection h2 with _ h2 _
    exact absurd h2 (by decide)
  refine ⟨h.hn.far (Below.heap_setCell W ⟨bs.getD i 0, j, none⟩ _ _ (fun e => h.nh i hib e.symm)), (Below.heap_setCell W ⟨bs.getD i 0, j, none⟩ _ ob hne).trans h.ho, by rw [h.lb, List.length_set], fun k hk => ?_, h.nd, h.nh, h.l0, h.l1, h.l2⟩
  rw [List.length_set] at hk
  by_cases hki : k = i
  · subst hki
    rw [show (rows.set k ((rows.getD k []).set j x)).getD k [] = (rows.getD k []).set j x by rw [List.getD_eq_getElem?_getD, List.getElem?_set_self hk]; rfl]
    exact (h.rw_ k hk).set j x
  · rw [show (rows.set i ((rows.getD i []).set j x)).getD k [] = rows.getD k [] by rw [List.getD_eq_getElem?_getD, List.getElem?_set_ne (fun e => hki e.symm), ← List.getD_eq_getElem?_getD]]
    exact (h.rw_ k hk).far (Below.heap_setCell W ⟨bs.getD i 0, j, none⟩ _ _ (fun e => hki (h.nd k i (by rw [h.lb]; exact hk) hib e)))
/-- The summary's numbers: those of the first i parameters are told. -/
structure FillAt (p r : Nat) (h : List Int) (ress : List (List Int)) (i : Nat) (hs : List Int) (rows : List (List Int)) : Prop where
  hl : hs.length = p
  wl : rows.length = p
  rl : ∀ k, k < p → (rows.getD k []).length = r
  ha : ∀ k, k < i → hs.getD k 0 = max (h.getD (1 + r + k) 9) 0
  wr : ∀ k, k < i → ∀ j, j < r → (rows.getD k []).getD j 0 = max ((ress.getD j []).getD (1 + r + k) 9) 0
/-- Within parameter i: its first j results. -/
structure RowTo (p r : Nat) (h : List Int) (ress : List (List Int)) (i j : Nat) (hs : List Int) (rows : List (List Int)) : Prop where
  f : FillAt p r h ress i hs rows
  a : hs.getD i 0 = max (h.getD (1 + r + i) 9) 0
  w : ∀ k, k < j → (rows.getD i []).getD k 0 = max ((ress.getD k []).getD (1 + r + i) 9) 0
theorem FillAt.start (p r : Nat) (h : List Int) (ress : List (List Int)) : FillAt p r h ress 0 (List.replicate p 9) (List.replicate p (List.replicate r 9)) :=
  ⟨by simp, by simp, fun k hk => by rw [List.getD_eq_getElem?_getD, List.getElem?_replicate, if_pos hk]; simp, fun k hk => absurd hk (by omega), fun k hk => absurd hk (by omega)⟩
theorem getD0_set (l : List Int) (i j : Nat) (v : Int) (hi : i < l.length) : (l.set i v).getD j 0 = if j = i then v else l.getD j 0 := by
  simp only [List.getD_eq_getElem?_getD, List.getElem?_set]
  by_cases h : i = j
  · subst h; simp [hi]
  · rw [if_neg h, if_neg (fun e => h e.symm)]
theorem getDr_set (l : List (List Int)) (i j : Nat) (v : List Int) (hi : i < l.length) : (l.set i v).getD j [] = if j = i then v else l.getD j [] := by
  simp only [List.getD_eq_getElem?_getD, List.getElem?_set]
  by_cases h : i = j
  · subst h; simp [hi]
  · rw [if_neg h, if_neg (fun e => h e.symm)]
theorem FillAt.heap {p r : Nat} {h : List Int} {ress : List (List Int)} {i : Nat} {hs : List Int} {rows : List (List Int)} (a : FillAt p r h ress i hs rows) (hi : i < p) : RowTo p r h ress i 0 (hs.set i (max (h.getD (1 + r + i) 9) 0)) rows := by
  have hl := a.hl
  refine ⟨⟨by rw [List.length_set]; exact hl, a.wl, a.rl, fun k hk => ?_, a.wr⟩, ?_, fun k hk => absurd hk (by omega)⟩
  · rw [getD0_set _ _ _ _ (by omega), if_neg (by omega)]; exact a.ha k hk
  · rw [getD0_set _ _ _ _ (by omega), if_pos rfl]
theorem RowTo.row {p r : Nat} {h : List Int} {ress : List (List Int)} {i j : Nat} {hs : List Int} {rows : List (List Int)} (a : RowTo p r h ress i j hs rows) (hi : i < p) (hj : j < r) : RowTo p r h ress i (j + 1) hs (rows.set i ((rows.getD i []).set j (max ((ress.getD j []).getD (1 + r + i) 9) 0))) := by
  have hl := a.f.wl
  have hrl := a.f.rl i hi
  refine ⟨⟨a.f.hl, by rw [List.length_set]; exact hl, fun k hk => ?_, a.f.ha, fun k hk j' hj' => ?_⟩, a.a, fun k hk => ?_⟩
  · rw [getDr_set _ _ _ _ (by omega)]
    split
    · rw [List.length_set]; exact hrl
    · exact a.f.rl k hk
  · rw [getDr_set _ _ _ _ (by omega), if_neg (by omega)]; exact a.f.wr k hk j' hj'
  · rw [getDr_set _ _ _ _ (by omega), if_pos rfl, getD0_set _ _ _ _ (by omega)]
    split
    · subst k; rfl
    · exact a.w k (by omega)
theorem RowTo.done {p r : Nat} {h : List Int} {ress : List (List Int)} {i : Nat} {hs : List Int} {rows : List (List Int)} (a : RowTo p r h ress i r hs rows) : FillAt p r h ress (i + 1) hs rows := by
  refine ⟨a.f.hl, a.f.wl, a.f.rl, fun k hk => ?_, fun k hk j hj => ?_⟩
  · by_cases hki : k = i
    · subst hki; exact a.a
    · exact a.f.ha k (by omega)
  · by_cases hki : k = i
    · subst hki; exact a.w j hj
    · exact a.f.wr k (by omega) j hj
theorem FillAt.func {f : Fun} {E : List Edg} {esc : List Bool} {p r : Nat} {h : List Int} {ress : List (List Int)} {hs : List Int} {rows : List (List Int)} (a : FillAt p r h ress p hs rows) (hp : f.f0 = p) (hr : f.f1 = r) (hl : ress.length = r) (hf : ∀ j, j < r → IsFrom (locsF f) E [1 + (j : Int)] (ress.getD j [])) (hh : HeapIs (locsF f) r E ress esc h) : FuncIs f E esc hs rows := by
  have e1 := a.hl
  have e2 := a.wl
  have e3 : ∀ i : Nat, (1 + f.f1 + (i : Int)).toNat = 1 + r + i := fun i => by omega
  refine ⟨ress, h, ⟨by omega, fun j hj => hf j (by omega), by rw [hr]; exact hh, by omega, by omega, fun i hi => ?_, fun i hi => ?_, fun i hi j hj => ?_⟩⟩
  · rw [e3]; exact a.ha i (by omega)
  · rw [a.rl i (by omega), hl]
  · rw [e3]; exact a.wr i (by omega) j (by omega)
end Go.Proofs.YtcbcacbbnojdjaaDoor
namespace Go.Proofs.YtcbcacbbnojdjaaDoor
open Go.RowKit Go.Maps Go.Proofs.YtcbcacbbnojdjaaDoorW.PrintWords Go.Proofs.YtcbcacbbnojdjaaDoorW.PrintLast Go.Proofs.YtcbcacbbnojdjaaDoor.PSolveMonotone
set_option linter.unusedVariables false
set_option linter.unusedSimpArgs false
theorem two_allocs (w : World) (o o' : Obj) : Below w.heap.size w ((w.alloc o).alloc o') := (below1 w o).alloc (by simp) _
set_option maxRecDepth 100000 in
set_option maxHeartbeats 6400000 in
theorem above_good (n : Nat) (A0 : Option Addr) (c0 : Nat) (a0 : List Int) (A1 : Option Addr) (c1 : Nat) (a1 : List (List Int)) (B0 : Option Addr) (d0 : Nat) (b0 : List Int) (B1 : Option Addr) (d1 : Nat) (b1 : List (List Int)) (w : World)
    (hA0 : (Kd.int .i64).C w A0 n a0) (hA1 : (Kd.slice 3 (Kd.int .i64)).C w A1 n a1) (hB0 : (Kd.int .i64).C w B0 n b0) (hB1 : (Kd.slice 3 (Kd.int .i64)).C w B1 n b1) (hn : n ≤ 17592186044416)
    (hrl : ∀ i, i < n → (a1.getD i []).length ≤ 17592186044416 ∧ (b1.getD i []).length = (a1.getD i []).length) (hh : ∀ i, i < n → a0.getD i 0 ≤ b0.getD i 0) (hle : ∀ i, i < n → ∀ j, j < (a1.getD i []).length → (a1.getD i []).getD j 0 ≤ (b1.getD i []).getD j 0) :
    Calls Tryd.prog 11 #[.agg #[.slice A0 n c0, .slice A1 n c1], .agg #[.slice B0 n d0, .slice B1 n d1]] w fun e w' => e = .returned (.bool true) ∧ Below w.heap.size w w' := by
  have HA0 := Lib.hid hA0
  have HA1 := Lib.hid hA1
  have HB0 := Lib.hid hB0
  have HB1 := Lib.hid hB1
  have HRL := Lib.hid hrl
  have HH := Lib.hid hh
  have HLE := Lib.hid hle
  clear hA0 hA1 hB0 hB1 hrl hh hle
  go_enter Tryd.func11, Tryd.ntmps11
  go_upto_region 1 with (fail)
  have hb2 := two_allocs w (.cells #[.slice A0 n c0, .slice A1 n c1] 33) (.cells #[.slice B0 n d0, .slice B1 n d1] 33)
  have f1 := alloc_first w #[.slice A0 n c0, .slice A1 n c1] 33 (.cells #[.slice B0 n d0, .slice B1 n d1] 33)
  have f2 := alloc_second w (.cells #[.slice A0 n c0, .slice A1 n c1] 33) #[.slice B0 n d0, .slice B1 n d1] 33
  obtain ⟨N, hN⟩ : ∃ N, w.heap.size = N := ⟨_, rfl⟩
  have HN := Lib.hid hN
  rw [hN] at hb2 f1 f2 ⊢
  clear hN
  generalize World.alloc _ _ = W2 at hb2 f1 f2 ⊢
  have HB2 := Lib.hid hb2
  have F1 := Lib.hid f1
  have F2 := Lib.hid f2
  have p0 := blk_cell f1 0
  have p1 := blk_cell f1 1
  have q0 := blk_cell f2 0
  have q1 := blk_cell f2 1
  simp only [List.getElem?_toArray, List.getElem?_cons_succ, List.getElem?_cons_zero] at p0 p1 q0 q1
  clear hb2 f1 f2
  go_wp2_with fail
  clear p0 p1 q0 q1
  go_loopw [5] (fun i wr => ∃ j : Nat, j ≤ n ∧ i = .int .i64 j ∧ Below W2.heap.size W2 wr) (fun i _ => n - (intOf i).toNat)
  case atStart => exact ⟨0, by omega, rfl, Below.refl _ _⟩
  case round =>
    obtain ⟨j, hj, rfl, hb⟩ := hrel
    have f1 := (hb.block _ (blk_lt F1.out)).trans F1.out
    have f2 := (hb.block _ (blk_lt F2.out)).trans F2.out
    have p0 := blk_cell f1 0
    have p1 := blk_cell f1 1
    have q0 := blk_cell f2 0
    have q1 := blk_cell f2 1
    simp only [List.getElem?_toArray, List.getElem?_cons_succ, List.getElem?_cons_zero] at p0 p1 q0 q1
    have HBr := Lib.hid hb
    clear f1 f2
    by_cases hlt : j < n
    · have hbw : Below w.heap.size w wr := by rw [HN.out]; exact HB2.out.trans (hb.mono (by have := blk_lt F1.out; omega))
      obtain ⟨ad0, hx0, v0⟩ := Kd.at_int (Kd.C_below HA0.out hbw) (j : Int) (by omega) (by omega)
      obtain ⟨bd0, hy0, u0⟩ := Kd.at_int (Kd.C_below HB0.out hbw) (j : Int) (by omega) (by omega)
      obtain ⟨ad1, R0, e0, hx1, v1, _, hC⟩ := at_L1 (Kd.C_below HA1.out hbw) (j : Int) (by omega) (by omega)
      obtain ⟨bd1, S0, g0, hy1, u1, _, hD⟩ := at_L1 (Kd.C_below HB1.out hbw) (j : Int) (by omega) (by omega)
      have r1 : rd_L1 a1 (j : Int) = a1.getD j [] := by rw [rd_L1, Int.toNat_natCast]
      have r2 : rd_L1 b1 (j : Int) = b1.getD j [] := by rw [rd_L1, Int.toNat_natCast]
      obtain ⟨m, hm⟩ : ∃ m, (a1.getD j []).length = m := ⟨_, rfl⟩
      have hrl := HRL.out j hlt
      rw [hm] at hrl
      rw [r1, hm] at v1 hC
      rw [r2, hrl.2] at u1 hD
      obtain ⟨x, hx⟩ : ∃ x, a0.getD j 0 = x := ⟨_, rfl⟩
      obtain ⟨y, hy⟩ : ∃ y, b0.getD j 0 = y := ⟨_, rfl⟩
      have e1 : rd a0 (j : Int) = x := by unfold rd; rw [Int.toNat_natCast]; exact hx
      have e2 : rd b0 (j : Int) = y := by unfold rd; rw [Int.toNat_natCast]; exact hy
      rw [e1, Int.toNat_natCast] at v0
      rw [e2, Int.toNat_natCast] at u0
      rw [Int.toNat_natCast] at v1 u1
      have hxy : x ≤ y := by have := HH.out j hlt; omega
      have hd : decide (y < x) = false := decide_eq_false (by omega)
      have HC := Lib.hid hC
      have HD := Lib.hid hD
      have HM := Lib.hid hm
      have hml := hrl.1
      subst hx0
      subst hy0
      subst hx1
      subst hy1
      clear hC hD hm hrl r1 r2 hx hy e1 e2 hbw hb hxy
      go_upto_region 6 with (fail)
      go_quiet (fail)
      have hq0 : Below wr.heap.size wr (wr.drewN nq) := pw_below_drewN (Below.refl _ wr) nq
      have HQ0 := Lib.hid hq0
      clear hq0
      generalize wr.drewN nq = w5 at HQ0 ⊢
      clear hd
      go_wp2_with fail
      obtain ⟨wo, rfl⟩ : ∃ wo : World, wo = wr := ⟨_, rfl⟩
      go_loopw [6] (fun i wq => ∃ k : Nat, k ≤ m ∧ i = .int .i64 k ∧ Below wo.heap.size wo wq) (fun i _ => m - (intOf i).toNat)
      case atStart => exact ⟨0, by omega, rfl, HQ0.out⟩
      case round =>
        clear HQ0
        obtain ⟨k, hk, rfl, hbq⟩ := hrel
        have P0 := below_cells hbq _ _ p0
        have P1 := below_cells hbq _ _ p1
        have Q0 := below_cells hbq _ _ q0
        have Q1 := below_cells hbq _ _ q1
        have V1 := below_cells hbq _ _ v1
        have U1 := below_cells hbq _ _ u1
        have HBq := Lib.hid hbq
        have Y0 := Lib.hid (And.intro p0 (And.intro p1 (And.intro q0 (And.intro q1 (And.intro v1 u1)))))
        clear p0 p1 q0 q1 v1 u1 v0 u0
        by_cases hkm : k < m
        · obtain ⟨cd, hx2, z0⟩ := Kd.at_int (Kd.C_below HC.out hbq) (k : Int) (by omega) (by omega)
          obtain ⟨dd, hy2, z1⟩ := Kd.at_int (Kd.C_below HD.out hbq) (k : Int) (by omega) (by omega)
          obtain ⟨x2, hx⟩ : ∃ x2, (a1.getD j []).getD k 0 = x2 := ⟨_, rfl⟩
          obtain ⟨y2, hy⟩ : ∃ y2, (b1.getD j []).getD k 0 = y2 := ⟨_, rfl⟩
          have e1 : rd (a1.getD j []) (k : Int) = x2 := by unfold rd; rw [Int.toNat_natCast]; exact hx
          have e2 : rd (b1.getD j []) (k : Int) = y2 := by unfold rd; rw [Int.toNat_natCast]; exact hy
          rw [e1, Int.toNat_natCast] at z0
          rw [e2, Int.toNat_natCast] at z1
          have hd : decide (y2 < x2) = false := decide_eq_false (by have := HLE.out j hlt k (by rw [HM.out]; exact hkm); omega)
          subst hx2
          subst hy2
          clear hx hy e1 e2 hbq
          go_upto_region 11 with (fail)
          go_quiet (fail)
          have HQ1 := Lib.hid (show Below wo.heap.size wo (wr.drewN nq) from pw_below_drewN HBq.out nq)
          clear P0 P1 Q0 Q1 V1 U1 z0 z1 hd
          generalize wr.drewN nq = w6 at HQ1 ⊢
          go_wp2_with fail
          go_roundw
          case rel => exact ⟨k + 1, by omega, by go_num, HQ1.out⟩
          case measure => simp [intOf]; omega
        · obtain rfl : k = m := by omega
          clear hbq
          go_wp2_with fail
          go_roundw
          case rel => exact ⟨j + 1, by omega, by go_num, HBr.out.trans (HBq.out.mono HBr.out.size)⟩
          case measure => simp [intOf]; omega
    · obtain rfl : j = n := by omega
      clear hb
      go_wp2_with fail
      go_ret
      refine ⟨rfl, ?_⟩
      rw [HN.out]
      exact HB2.out.trans (HBr.out.mono (by have := blk_lt F1.out; omega))
end Go.Proofs.YtcbcacbbnojdjaaDoor
namespace Go.Proofs.YtcbcacbbnojdjaaDoor
open Go.RowKit Go.Maps Go.Proofs.YtcbcacbbnojdjaaDoorW.PrintWords Go.Proofs.YtcbcacbbnojdjaaDoorW.PrintLast Go.Proofs.YtcbcacbbnojdjaaDoor.PSolveMonotone
set_option linter.unusedVariables false
set_option linter.unusedSimpArgs false
/-- A number of a summary. -/
def WNum (d : Int) : Prop := (0 ≤ d ∧ d ≤ 3) ∨ d = 9
instance (d : Int) : Decidable (WNum d) := by unfold WNum; exact inferInstance
theorem plain_is (d : Int) : fuguelaw08_plain.f d = some (decide (WNum d)) := by
  unfold fuguelaw08_plain.f
  by_cases h0 : d ≥ 0
  · rw [if_pos h0]
    by_cases h3 : d ≤ 3
    · rw [if_pos h3, decide_eq_true (.inl ⟨h0, h3⟩)]
    · rw [if_neg h3]
      by_cases h9 : d = 9
      · subst h9; rfl
      · rw [decide_eq_false (fun h => by unfold WNum at h; omega)]
        simpa using h9
  · rw [if_neg h0]
    rw [decide_eq_false (fun h => by unfold WNum at h; omega)]
    simp; omega
/-- Of one parameter. -/
def ShapeI (f1 : Int) (hs : List Int) (rows : List (List Int)) (i : Nat) : Prop := WNum (hs.getD i 0) ∧ ((rows.getD i []).length : Int) = f1 ∧ ∀ j, j < (rows.getD i []).length → WNum ((rows.getD i []).getD j 0)
def ShapeP (f0 f1 : Int) (hs : List Int) (rows : List (List Int)) : Prop := (hs.length : Int) = f0 ∧ (rows.length : Int) = f0 ∧ ∀ i, i < hs.length → ShapeI f1 hs rows i
set_option maxRecDepth 100000 in
set_option maxHeartbeats 6400000 in
theorem shaped_any (f0 f1 f2 : Int) (A3 : Option Addr) (n3 c3 : Nat) (A0 : Option Addr) (c0 : Nat) (hs : List Int) (A1 : Option Addr) (c1 : Nat) (rows : List (List Int)) (w : World)
    (hA0 : (Kd.int .i64).C w A0 hs.length hs) (hA1 : (Kd.slice 3 (Kd.int .i64)).C w A1 rows.length rows) (hn : hs.length ≤ 17592186044416) (hrl : ∀ r ∈ rows, r.length ≤ 17592186044416) :
    Calls Tryd.prog 21 #[.agg #[.int .i64 f0, .int .i64 f1, .int .i64 f2, .slice A3 n3 c3], .agg #[.slice A0 hs.length c0, .slice A1 rows.length c1]] w fun e w' => ∃ r, e = .returned (.bool r) ∧ (r = true → ShapeP f0 f1 hs rows) ∧ Below w.heap.size w w' := by
  have HA0 := Lib.hid hA0
  have HA1 := Lib.hid hA1
  have HRL := Lib.hid hrl
  obtain ⟨n, hn0⟩ : ∃ n, hs.length = n := ⟨_, rfl⟩
  obtain ⟨n', hn1⟩ : ∃ n', rows.length = n' := ⟨_, rfl⟩
  rw [hn0] at HA0 hn ⊢
  rw [hn1] at HA1 ⊢
  have HN0 := Lib.hid hn0
  have HN1 := Lib.hid hn1
  clear hA0 hA1 hrl hn0 hn1
  go_enter Tryd.func21, Tryd.ntmps21
  go_upto_region 1 with (fail)
  have hb2 := two_allocs w (.cells #[.int .i64 f0, .int .i64 f1, .int .i64 f2, .slice A3 n3 c3] 45) (.cells #[.slice A0 n c0, .slice A1 n' c1] 33)
  have g1 := alloc_first w #[.int .i64 f0, .int .i64 f1, .int .i64 f2, .slice A3 n3 c3] 45 (.cells #[.slice A0 n c0, .slice A1 n' c1] 33)
  have g2 := alloc_second w (.cells #[.int .i64 f0, .int .i64 f1, .int .i64 f2, .slice A3 n3 c3] 45) #[.slice A0 n c0, .slice A1 n' c1] 33
  obtain ⟨N, hN⟩ : ∃ N, w.heap.size = N := ⟨_, rfl⟩
  have HN := Lib.hid hN
  rw [hN] at hb2 g1 g2 ⊢
  clear hN
  generalize World.alloc _ _ = W2 at hb2 g1 g2 ⊢
  have HB2 := Lib.hid hb2
  have F1 := Lib.hid g1
  have F2 := Lib.hid g2
  have p0 := blk_cell g1 0
  have q0 := blk_cell g2 0
  have q1 := blk_cell g2 1
  simp only [List.getElem?_toArray, List.getElem?_cons_succ, List.getElem?_cons_zero] at p0 q0 q1
  clear hb2 g1 g2
  by_cases h0 : (n : Int) = f0
  · subst h0
    by_cases h1 : n' = n
    · subst h1
      go_wp2_with fail
      clear p0 q0 q1
      go_loopw [5] (fun i wr => ∃ j : Nat, j ≤ n' ∧ i = .int .i64 j ∧ (∀ q, q < j → ShapeI f1 hs rows q) ∧ Below W2.heap.size W2 wr) (fun i _ => n' - (intOf i).toNat)
      case atStart => exact ⟨0, by omega, rfl, fun q hq => absurd hq (by omega), Below.refl _ _⟩
      case round =>
        obtain ⟨j, hj, rfl, hall, hb⟩ := hrel
        have g1 := (hb.block _ (blk_lt F1.out)).trans F1.out
        have g2 := (hb.block _ (blk_lt F2.out)).trans F2.out
        have p1 := blk_cell g1 1
        have q0 := blk_cell g2 0
        have q1 := blk_cell g2 1
        simp only [List.getElem?_toArray, List.getElem?_cons_succ, List.getElem?_cons_zero] at p1 q0 q1
        have HBr := Lib.hid hb
        have HALL := Lib.hid hall
        clear g1 g2 hall
        by_cases hlt : j < n'
        · have hbw : Below w.heap.size w wr := by rw [HN.out]; exact HB2.out.trans (hb.mono (by have := blk_lt F1.out; omega))
          obtain ⟨ad0, hx0, v0⟩ := Kd.at_int (Kd.C_below HA0.out hbw) (j : Int) (by omega) (by omega)
          obtain ⟨ad1, R0, e0, hx1, v1, _, hC⟩ := at_L1 (Kd.C_below HA1.out hbw) (j : Int) (by omega) (by omega)
          have r1 : rd_L1 rows (j : Int) = rows.getD j [] := by rw [rd_L1, Int.toNat_natCast]
          obtain ⟨m, hm⟩ : ∃ m, (rows.getD j []).length = m := ⟨_, rfl⟩
          have hml : m ≤ 17592186044416 := by rw [← hm]; exact HRL.out _ (by rw [List.getD_eq_getElem?_getD, List.getElem?_eq_getElem (by rw [HN1.out]; exact hlt)]; exact List.getElem_mem _)
          rw [r1, hm] at v1 hC
          obtain ⟨x, hx⟩ : ∃ x, hs.getD j 0 = x := ⟨_, rfl⟩
          have e1 : rd hs (j : Int) = x := by unfold rd; rw [Int.toNat_natCast]; exact hx
          rw [e1, Int.toNat_natCast] at v0
          rw [Int.toNat_natCast] at v1
          obtain ⟨b, hb0⟩ : ∃ b, decide (WNum x) = b := ⟨_, rfl⟩
          have HPL := Lib.hid (show fuguelaw08_plain.f x = some b by rw [plain_is, hb0])
          have HX := Lib.hid (And.intro hx hb0)
          have HC := Lib.hid hC
          have HM := Lib.hid hm
          subst hx0
          subst hx1
          clear hC hm r1 hx e1 hb0 hbw hb
          cases b with
          | false =>
            go_upto_region 6 with (fail)
            go_quiet (first | (go_at_call 34; (with_reducible refine (fuguelaw08_plain.calls x false _ HPL.out).mono ?_); rintro e w' ⟨rfl, ⟨nd, rfl⟩⟩; (try first | exact ⟨rfl, _, World.drewN_drewN _ _ _⟩ | exact ⟨rfl, _, Eq.trans (World.drewN_drewN _ _ _) (congrArg (World.drewN _) (Nat.add_assoc _ _ _))⟩)))
            go_wp2_with fail
            go_ret
            exact ⟨false, rfl, (fun h => by cases h), by rw [HN.out]; exact HB2.out.trans ((pw_below_drewN HBr.out _).mono (by have := blk_lt F1.out; omega))⟩
          | true =>
            by_cases hf : (m : Int) = f1
            · have hd : ((m : Int) != f1) = false := bne_eq_false_iff_eq.2 hf
              have HF := Lib.hid hf
              clear hf
              go_upto_region 6 with (fail)
              go_quiet (first | (go_at_call 34; (with_reducible refine (fuguelaw08_plain.calls x true _ HPL.out).mono ?_); rintro e w' ⟨rfl, ⟨nd, rfl⟩⟩; (try first | exact ⟨rfl, _, World.drewN_drewN _ _ _⟩ | exact ⟨rfl, _, Eq.trans (World.drewN_drewN _ _ _) (congrArg (World.drewN _) (Nat.add_assoc _ _ _))⟩)))
              have HQ0 := Lib.hid (show Below wr.heap.size wr (wr.drewN nq) from pw_below_drewN (Below.refl _ wr) nq)
              generalize wr.drewN nq = w5 at HQ0 ⊢
              clear hd
              go_wp2_with fail
              obtain ⟨wo, rfl⟩ : ∃ wo : World, wo = wr := ⟨_, rfl⟩
              go_loopw [6] (fun i wq => ∃ k : Nat, k ≤ m ∧ i = .int .i64 k ∧ (∀ q, q < k → WNum ((rows.getD j []).getD q 0)) ∧ Below wo.heap.size wo wq) (fun i _ => m - (intOf i).toNat)
              case atStart => exact ⟨0, by omega, rfl, fun q hq => absurd hq (by omega), HQ0.out⟩
              case round =>
                clear HQ0
                obtain ⟨k, hk, rfl, hall, hbq⟩ := hrel
                have Q1 := below_cells hbq _ _ q1
                have V1 := below_cells hbq _ _ v1
                have HBq := Lib.hid hbq
                have HALK := Lib.hid hall
                clear p1 q0 q1 v1 v0 hall
                by_cases hkm : k < m
                · obtain ⟨cd, hx2, z0⟩ := Kd.at_int (Kd.C_below HC.out hbq) (k : Int) (by omega) (by omega)
                  obtain ⟨x2, hx⟩ : ∃ x2, (rows.getD j []).getD k 0 = x2 := ⟨_, rfl⟩
                  have e1 : rd (rows.getD j []) (k : Int) = x2 := by unfold rd; rw [Int.toNat_natCast]; exact hx
                  rw [e1, Int.toNat_natCast] at z0
                  obtain ⟨b, hb0⟩ : ∃ b, decide (WNum x2) = b := ⟨_, rfl⟩
                  have HPM := Lib.hid (show fuguelaw08_plain.f x2 = some b by rw [plain_is, hb0])
                  have HXX := Lib.hid (And.intro hx hb0)
                  subst hx2
                  clear hx e1 hb0 hbq
                  go_wp2_with fail
                  refine (fuguelaw08_plain.calls x2 b _ HPM.out).mono ?_
                  rintro e w6 ⟨rfl, ⟨nd, rfl⟩⟩
                  have HQ1 := Lib.hid (show Below wo.heap.size wo (wr.drewN nd) from pw_below_drewN HBq.out nd)
                  clear Q1 V1 z0
                  generalize wr.drewN nd = w6 at HQ1 ⊢
                  cases b with
                  | true =>
                    go_wp2_with fail
                    go_roundw
                    case rel =>
                      refine ⟨k + 1, by omega, by go_num, fun q hq => ?_, HQ1.out⟩
                      by_cases hqk : q = k
                      · subst hqk; rw [HXX.out.1]; exact of_decide_eq_true HXX.out.2
                      · exact HALK.out q (by omega)
                    case measure => simp [intOf]; omega
                  | false =>
                    go_wp2_with fail
                    go_ret
                    exact ⟨false, rfl, (fun h => by cases h), by rw [HN.out]; exact HB2.out.trans ((HBr.out.trans (HQ1.out.mono HBr.out.size)).mono (by have := blk_lt F1.out; omega))⟩
                · obtain rfl : k = m := by omega
                  clear hbq
                  go_wp2_with fail
                  go_roundw
                  case rel =>
                    refine ⟨j + 1, by omega, by go_num, fun q hq => ?_, HBr.out.trans (HBq.out.mono HBr.out.size)⟩
                    by_cases hqj : q = j
                    · subst hqj
                      exact ⟨by rw [HX.out.1]; exact of_decide_eq_true HX.out.2, by rw [HM.out]; exact HF.out, fun q hq => HALK.out q (by rw [HM.out] at hq; exact hq)⟩
                    · exact HALL.out q (by omega)
                  case measure => simp [intOf]; omega
            · have hd : ((m : Int) != f1) = true := bne_iff_ne.2 hf
              go_upto_region 6 with (fail)
              go_quiet (first | (go_at_call 34; (with_reducible refine (fuguelaw08_plain.calls x true _ HPL.out).mono ?_); rintro e w' ⟨rfl, ⟨nd, rfl⟩⟩; (try first | exact ⟨rfl, _, World.drewN_drewN _ _ _⟩ | exact ⟨rfl, _, Eq.trans (World.drewN_drewN _ _ _) (congrArg (World.drewN _) (Nat.add_assoc _ _ _))⟩)))
              go_wp2_with fail
              go_ret
              exact ⟨false, rfl, (fun h => by cases h), by rw [HN.out]; exact HB2.out.trans ((pw_below_drewN HBr.out _).mono (by have := blk_lt F1.out; omega))⟩
        · obtain rfl : j = n' := by omega
          clear hb
          go_wp2_with fail
          go_ret
          refine ⟨true, rfl, fun _ => ⟨by rw [HN0.out], by rw [HN1.out], fun i hi => HALL.out i (by rw [HN0.out] at hi; exact hi)⟩, ?_⟩
          rw [HN.out]
          exact HB2.out.trans (HBr.out.mono (by have := blk_lt F1.out; omega))
    · have hd : ((n' : Int) != (n : Int)) = true := bne_iff_ne.2 (by omega)
      go_wp2_with fail
      go_ret
      exact ⟨false, rfl, (fun h => by cases h), by rw [HN.out]; exact HB2.out⟩
  · have hd : ((n : Int) != f0) = true := bne_iff_ne.2 h0
    go_wp2_with fail
    go_ret
    exact ⟨false, rfl, (fun h => by cases h), by rw [HN.out]; exact HB2.out⟩
end Go.Proofs.YtcbcacbbnojdjaaDoor
namespace Go.Proofs.YtcbcacbbnojdjaaDoor
open Go.RowKit Go.Proofs.YtcbcacbbnojdjaaDoorW.PrintWords Go.Proofs.YtcbcacbbnojdjaaDoor.PSolveMonotone
set_option linter.unusedVariables false
set_option linter.unusedSimpArgs false
/-- A summary of a function's shape. -/
structure ShapeOk (f : Fun) (s : Smm) : Prop where
  h0 : (s.f0.length : Int) = f.f0
  h1 : (s.f1.length : Int) = f.f0
  hp : ∀ i, i < s.f0.length → WNum (s.f0.getD i 0)
  hr : ∀ i, i < s.f0.length → ((s.f1.getD i []).length : Int) = f.f1
  hw : ∀ i, i < s.f0.length → ∀ j, j < (s.f1.getD i []).length → WNum ((s.f1.getD i []).getD j 0)
section
variable (f : Fun) (s : Smm)
theorem ShapeP.ok (h : ShapeP f.f0 f.f1 s.f0 s.f1) : ShapeOk f s := ⟨h.1, h.2.1, fun i hi => (h.2.2 i hi).1, fun i hi => (h.2.2 i hi).2.1, fun i hi => (h.2.2 i hi).2.2⟩
theorem ShapeOk.fits (h : ShapeOk f s) : fitsB f s = true := by
  have key : ∀ l : List Nat, (∀ i ∈ l, i < s.f0.length) → fitFrom f.f1 s.f0 s.f1 l = true := by
    intro l
    induction l with
    | nil => intro _; rfl
    | cons a l ih =>
      intro hl
      have ha := hl a List.mem_cons_self
      unfold fitFrom
      rw [Bool.and_eq_true, Bool.and_eq_true, Bool.and_eq_true, decide_eq_true_eq, List.all_eq_true]
      refine ⟨wOk_of (h.hp a ha), h.hr a ha, fun x hx => ?_, ih (fun i hi => hl i (List.mem_cons_of_mem _ hi))⟩
      obtain ⟨j, hj, rfl⟩ := List.getElem_of_mem hx
      have := h.hw a ha j hj
      rw [List.getD_eq_getElem?_getD, List.getElem?_eq_getElem hj] at this
      exact wOk_of this
  unfold fitsB
  rw [Bool.and_eq_true, Bool.and_eq_true, decide_eq_true_eq, decide_eq_true_eq]
  exact ⟨h.h0, h.h1, key _ (fun i hi => List.mem_range.1 hi)⟩
end
end Go.Proofs.YtcbcacbbnojdjaaDoor
namespace Go.Proofs.YtcbcacbbnojdjaaDoor
open Go.RowKit Go.Proofs.YtcbcacbbnojdjaaDoorW.PrintWords Go.Proofs.YtcbcacbbnojdjaaDoor.PSolveMonotone
set_option linter.unusedVariables false
set_option linter.unusedSimpArgs false
theorem wrap_succ (i n : Nat) (h : i < n) (hn : n ≤ 9223372036854775807) : wrap64 ((i : Int) + 1) = ((i + 1 : Nat) : Int) := by unfold wrap64; omega
/-- A loop that copies element by element. -/
theorem ev_copy {α β : Type} (l : Nat → List α → Int → Option (List α)) (xs : List α) (d : α) (hend : ∀ k acc, l (k + 1) acc (xs.length : Int) = some acc)
    (q : Nat → α → Option β) (g : β → α) (hstep : ∀ k (i : Nat) acc, i < xs.length → acc.length = i → l (k + 1) acc (i : Int) = (q k (xs.getD i d)).bind fun y => l k (acc ++ [g y]) ((i + 1 : Nat) : Int))
    (hq : ∀ i, i < xs.length → ∃ y, Ev (fun k => q k (xs.getD i d)) y ∧ g y = xs.getD i d) :
    ∀ (m i : Nat), i + m = xs.length → Ev (fun k => l k (xs.take i) (i : Int)) xs
  | 0, i, hi => by
    obtain rfl : i = xs.length := by omega
    rw [List.take_length]
    exact Ev.step (fun k => hend k xs) (Ev.now _)
  | m + 1, i, hi => by
    have h1 : i < xs.length := by omega
    obtain ⟨y, hy, hg⟩ := hq i h1
    refine Ev.step (f := fun k => (q k (xs.getD i d)).bind fun y => l k (xs.take i ++ [g y]) ((i + 1 : Nat) : Int)) (fun k => hstep k i _ h1 (by simp; omega)) ?_
    refine Ev.bind (f := fun k y => l k (xs.take i ++ [g y]) ((i + 1 : Nat) : Int)) hy ?_
    have hx : xs.getD i d = xs[i] := by simp [h1]
    rw [hg, hx, show xs.take i ++ [xs[i]] = xs.take (i + 1) by rw [List.take_add_one, List.getElem?_eq_getElem h1]; rfl]
    exact ev_copy l xs d hend q g hstep hq m (i + 1) (by omega)
theorem ev_copyInts (xs : List Int) (hm : xs.length ≤ 2147483647) : Ev (fun k => fugueref00_CopyInts.f k xs) xs := by
  have h := ev_copy (fun k acc i => fugueref00_CopyInts.l0 k xs acc i) xs 0 (fun k acc => by simp only [fugueref00_CopyInts.l0]; rw [if_neg (by omega)]) (fun _ x => some x) id
    (fun k i acc hi ha => by
      simp only [fugueref00_CopyInts.l0]
      rw [if_pos (by omega), if_pos (by omega), if_pos (by omega), wrap_succ i _ hi (by omega)]
      rfl) (fun i _ => ⟨_, Ev.now _, rfl⟩) xs.length 0 (by omega)
  exact h
/-- An instruction's lists are within the bound. -/
def SmallI (x : S52) : Prop := x.f5.length ≤ 2147483647 ∧ x.f6.length ≤ 2147483647
theorem rd29 (xs : List S52) (i : Nat) : rd_T52 xs (i : Int) = xs.getD i z52 := rfl
theorem rd32 (xs : List S45) (i : Nat) : rd_T45 xs (i : Int) = xs.getD i z45 := rfl
theorem getD_mem {α : Type} (xs : List α) (i : Nat) (d : α) (h : i < xs.length) : xs.getD i d ∈ xs := by
  rw [show xs.getD i d = xs[i] by simp [h]]
  exact List.getElem_mem _
/-- A function's lists are within the bound. -/
def SmallF (f : S45) : Prop := f.f3.length ≤ 2147483647 ∧ ∀ x ∈ f.f3, SmallI x
/-- What an argument's reach leaves. -/
def ReachI (x : S52) : Prop := x.f5.length ≤ 17592186044416 ∧ x.f6.length ≤ 17592186044416
def ReachF (f : S45) : Prop := f.f3.length ≤ 17592186044416 ∧ ∀ x ∈ f.f3, ReachI x
theorem long_code (g : Int) (fs : List S45) (i : Nat) (hi : i < fs.length) (hr : ReachF (fs.getD i z45)) (P : Prop)
    (hA : ∀ n : Int, 0 ≤ n → n ≤ 70368744177664 → ∃ r, Ev (fun k => fuguelaw08_long.l0 k n ((i + 1 : Nat) : Int) g fs) r ∧ (r = false → n ≤ 2147483647 ∧ P)) (hm : fs.length ≤ 9223372036854775807) :
    ∀ (m j : Nat), j + m = (fs.getD i z45).f3.length → ∀ n : Int, 0 ≤ n → n ≤ 70368744177664 →
      ∃ r, Ev (fun k => fuguelaw08_long.l1 k n (i : Int) (j : Int) g fs) r ∧ (r = false → n ≤ 2147483647 ∧ (∀ q, j ≤ q → q < (fs.getD i z45).f3.length → SmallI ((fs.getD i z45).f3.getD q z52)) ∧ P)
  | 0, j, hj, n, h0, h1 => by
    obtain ⟨r, hr1, hr2⟩ := hA n h0 h1
    refine ⟨r, Ev.step (fun k => ?_) hr1, fun he => ⟨(hr2 he).1, fun q h2 h3 => by omega, (hr2 he).2⟩⟩
    simp only [fuguelaw08_long.l1]
    rw [if_pos (by omega), if_pos (by omega), rd32, if_neg (by omega), wrap_succ i _ hi hm]
  | m + 1, j, hj, n, h0, h1 => by
    have hjl : j < (fs.getD i z45).f3.length := by omega
    by_cases hL : n > 2147483647
    · obtain ⟨r, hr1, hr2⟩ := hA n h0 h1
      refine ⟨r, Ev.step (fun k => ?_) hr1, fun he => absurd (hr2 he).1 (by omega)⟩
      simp only [fuguelaw08_long.l1]
      rw [if_pos (by omega), if_pos (by omega), rd32, if_pos (by omega), wrap_succ i _ hi hm]
      simp only [fugueref00_Long.f, hL, decide_true, Option.bind_some, if_true]
    · have hx := hr.2 _ (getD_mem _ j z52 hjl)
      have hc := hr.1
      obtain ⟨r, hr1, hr2⟩ := long_code g fs i hi hr P hA hm m (j + 1) (by omega) (n + ((fs.getD i z45).f3.getD j z52).f5.length + ((fs.getD i z45).f3.getD j z52).f6.length) (by omega) (by have := hx.1; have := hx.2; omega)
      refine ⟨r, Ev.step (fun k => ?_) hr1, fun he => ?_⟩
      · simp only [fuguelaw08_long.l1]
        rw [if_pos (by omega), if_pos (by omega), rd32, if_pos (by omega), wrap_succ j _ hjl (by omega), rd29]
        simp only [fugueref00_Long.f, hL, decide_false, Option.bind_some, Bool.false_eq_true, if_false]
        rw [if_pos (by omega)]
        congr 1
        have := hx.1
        have := hx.2
        unfold wrap64
        omega
      · obtain ⟨h2, h3, h4⟩ := hr2 he
        refine ⟨by omega, fun q hq hq2 => ?_, h4⟩
        by_cases hqj : q = j
        · subst hqj; exact ⟨by omega, by omega⟩
        · exact h3 q (by omega) hq2
theorem long_funcs (g : Int) (fs : List S45) (hr : ∀ f ∈ fs, ReachF f) (hm : fs.length ≤ 9223372036854775807) :
    ∀ (m i : Nat), i + m = fs.length → ∀ n : Int, 0 ≤ n → n ≤ 70368744177664 →
      ∃ r, Ev (fun k => fuguelaw08_long.l0 k n (i : Int) g fs) r ∧ (r = false → n ≤ 2147483647 ∧ ∀ q, i ≤ q → q < fs.length → SmallF (fs.getD q z45))
  | 0, i, hi, n, h0, h1 => by
    refine ⟨decide (n > 2147483647), Ev.step (f := fun k => fuguelaw08_long.j1 k n (i : Int) false g fs) (fun k => by simp only [fuguelaw08_long.l0]; rw [if_neg (by omega)]) (Ev.step (f := fun _ => some (decide (n > 2147483647))) (fun k => ?_) (Ev.now _)), fun he => ⟨by simpa using he, fun q _ _ => by omega⟩⟩
    simp [fuguelaw08_long.j1, fugueref00_Long.f]
  | m + 1, i, hi, n, h0, h1 => by
    have hil : i < fs.length := by omega
    by_cases hL : n > 2147483647
    · refine ⟨true, Ev.step (f := fun k => fuguelaw08_long.j1 k n (i : Int) false g fs) (fun k => ?_) (Ev.step (f := fun _ => some true) (fun k => ?_) (Ev.now _)), fun he => by cases he⟩
      · simp only [fuguelaw08_long.l0]
        rw [if_pos (by omega)]
        simp [fugueref00_Long.f, hL]
      · simp [fuguelaw08_long.j1, fugueref00_Long.f, hL]
    · have hf := hr _ (getD_mem _ i z45 hil)
      obtain ⟨r, hr1, hr2⟩ := long_code g fs i hil hf (∀ q, i + 1 ≤ q → q < fs.length → SmallF (fs.getD q z45)) (fun n h0 h1 => long_funcs g fs hr hm m (i + 1) (by omega) n h0 h1) hm (fs.getD i z45).f3.length 0 (by omega)
        (n + (fs.getD i z45).f3.length) (by omega) (by have := hf.1; omega)
      refine ⟨r, Ev.step (f := fun k => fuguelaw08_long.j1 k n (i : Int) true g fs) (fun k => ?_) (Ev.step (fun k => ?_) hr1), fun he => ?_⟩
      · simp only [fuguelaw08_long.l0]
        rw [if_pos (by omega)]
        simp [fugueref00_Long.f, hL]
      · simp only [fuguelaw08_long.j1, if_true]
        rw [if_pos (by omega), if_pos (by omega), rd32]
        congr 1
        have := hf.1
        unfold wrap64
        omega
      · obtain ⟨h2, h3, h4⟩ := hr2 he
        refine ⟨by omega, fun q hq hq2 => ?_⟩
        by_cases hqj : q = i
        · subst hqj
          refine ⟨by omega, fun x hx => ?_⟩
          obtain ⟨p, hp, rfl⟩ := List.getElem_of_mem hx
          have := h3 p (by omega) hp
          rwa [show (fs.getD q z45).f3.getD p z52 = (fs.getD q z45).f3[p] by rw [List.getD_eq_getElem?_getD, List.getElem?_eq_getElem hp, Option.getD_some]] at this
        · exact h4 q (by omega) hq2
/-- 'long' tells something; where it tells false the lists are within the bound. -/
theorem long_tells (g : Int) (fs : List S45) (hl : fs.length ≤ 17592186044416) (hr : ∀ f ∈ fs, ReachF f) :
    ∃ k r, fuguelaw08_long.f k g fs = some r ∧ (r = false → fs.length ≤ 2147483647 ∧ ∀ f ∈ fs, SmallF f) := by
  obtain ⟨r, h1, h2⟩ := long_funcs g fs hr (by omega) fs.length 0 (by omega) fs.length (by omega) (by omega)
  obtain ⟨k, hk⟩ := h1.rounds
  refine ⟨k, r, hk, fun he => ⟨by have := (h2 he).1; omega, fun f hf => ?_⟩⟩
  obtain ⟨p, hp, rfl⟩ := List.getElem_of_mem hf
  have := (h2 he).2 p (by omega) hp
  rwa [show fs.getD p z45 = fs[p] by simp [hp]] at this
/-- What an argument's reach leaves of a summary. -/
def ReachS (s : Smm) : Prop := s.f0.length ≤ 17592186044416 ∧ s.f1.length ≤ 17592186044416 ∧ ∀ r ∈ s.f1, r.length ≤ 17592186044416
/-- A summary's lists are within the bound. -/
def SmallS (s : Smm) : Prop := s.f0.length ≤ 2147483647 ∧ s.f1.length ≤ 2147483647 ∧ ∀ r ∈ s.f1, r.length ≤ 2147483647
theorem rd33 (xs : List Smm) (i : Nat) : rd_T33 xs (i : Int) = xs.getD i zS := rfl
theorem rdL1 (xs : List (List Int)) (i : Nat) : rd_L1 xs (i : Int) = xs.getD i [] := rfl
theorem sums_rows (ss : List Smm) (i : Nat) (hi : i < ss.length) (hr : ReachS (ss.getD i zS)) (P : Prop)
    (hA : ∀ n : Int, 0 ≤ n → n ≤ 70368744177664 → ∃ r, Ev (fun k => fuguelaw08_longSums.l0 k ss n ((i + 1 : Nat) : Int)) r ∧ (r = false → n ≤ 2147483647 ∧ P)) (hm : ss.length ≤ 9223372036854775807) :
    ∀ (m j : Nat), j + m = (ss.getD i zS).f1.length → ∀ n : Int, 0 ≤ n → n ≤ 70368744177664 →
      ∃ r, Ev (fun k => fuguelaw08_longSums.l1 k ss n (i : Int) (j : Int)) r ∧ (r = false → n ≤ 2147483647 ∧ (∀ q, j ≤ q → q < (ss.getD i zS).f1.length → ((ss.getD i zS).f1.getD q []).length ≤ 2147483647) ∧ P)
  | 0, j, hj, n, h0, h1 => by
    obtain ⟨r, hr1, hr2⟩ := hA n h0 h1
    refine ⟨r, Ev.step (fun k => ?_) hr1, fun he => ⟨(hr2 he).1, fun q h2 h3 => by omega, (hr2 he).2⟩⟩
    simp only [fuguelaw08_longSums.l1]
    rw [if_pos (by omega), if_pos (by omega), rd33, if_neg (by omega), wrap_succ i _ hi hm]
  | m + 1, j, hj, n, h0, h1 => by
    have hjl : j < (ss.getD i zS).f1.length := by omega
    by_cases hL : n > 2147483647
    · obtain ⟨r, hr1, hr2⟩ := hA n h0 h1
      refine ⟨r, Ev.step (fun k => ?_) hr1, fun he => absurd (hr2 he).1 (by omega)⟩
      simp only [fuguelaw08_longSums.l1]
      rw [if_pos (by omega), if_pos (by omega), rd33, if_pos (by omega), wrap_succ i _ hi hm]
      simp only [fugueref00_Long.f, hL, decide_true, Option.bind_some, if_true]
    · have hx := hr.2.2 _ (getD_mem _ j [] hjl)
      have hc := hr.2.1
      obtain ⟨r, hr1, hr2⟩ := sums_rows ss i hi hr P hA hm m (j + 1) (by omega) (n + ((ss.getD i zS).f1.getD j []).length) (by omega) (by omega)
      refine ⟨r, Ev.step (fun k => ?_) hr1, fun he => ?_⟩
      · simp only [fuguelaw08_longSums.l1]
        rw [if_pos (by omega), if_pos (by omega), rd33, if_pos (by omega), wrap_succ j _ hjl (by omega), rdL1]
        simp only [fugueref00_Long.f, hL, decide_false, Option.bind_some, Bool.false_eq_true, if_false]
        rw [if_pos (by omega)]
        congr 1
        unfold wrap64
        omega
      · obtain ⟨h2, h3, h4⟩ := hr2 he
        refine ⟨by omega, fun q hq hq2 => ?_, h4⟩
        by_cases hqj : q = j
        · subst hqj; omega
        · exact h3 q (by omega) hq2
theorem sums_all (ss : List Smm) (hr : ∀ s ∈ ss, ReachS s) (hm : ss.length ≤ 9223372036854775807) :
    ∀ (m i : Nat), i + m = ss.length → ∀ n : Int, 0 ≤ n → n ≤ 70368744177664 →
      ∃ r, Ev (fun k => fuguelaw08_longSums.l0 k ss n (i : Int)) r ∧ (r = false → n ≤ 2147483647 ∧ ∀ q, i ≤ q → q < ss.length → SmallS (ss.getD q zS))
  | 0, i, hi, n, h0, h1 => by
    refine ⟨decide (n > 2147483647), Ev.step (f := fun k => fuguelaw08_longSums.j1 k ss n (i : Int) false) (fun k => by simp only [fuguelaw08_longSums.l0]; rw [if_neg (by omega)]) (Ev.step (f := fun _ => some (decide (n > 2147483647))) (fun k => ?_) (Ev.now _)), fun he => ⟨by simpa using he, fun q _ _ => by omega⟩⟩
    simp [fuguelaw08_longSums.j1, fugueref00_Long.f]
  | m + 1, i, hi, n, h0, h1 => by
    have hil : i < ss.length := by omega
    by_cases hL : n > 2147483647
    · refine ⟨true, Ev.step (f := fun k => fuguelaw08_longSums.j1 k ss n (i : Int) false) (fun k => ?_) (Ev.step (f := fun _ => some true) (fun k => ?_) (Ev.now _)), fun he => by cases he⟩
      · simp only [fuguelaw08_longSums.l0]
        rw [if_pos (by omega)]
        simp [fugueref00_Long.f, hL]
      · simp [fuguelaw08_longSums.j1, fugueref00_Long.f, hL]
    · have hf := hr _ (getD_mem _ i zS hil)
      obtain ⟨r, hr1, hr2⟩ := sums_rows ss i hil hf (∀ q, i + 1 ≤ q → q < ss.length → SmallS (ss.getD q zS)) (fun n h0 h1 => sums_all ss hr hm m (i + 1) (by omega) n h0 h1) hm (ss.getD i zS).f1.length 0 (by omega)
        (n + (ss.getD i zS).f0.length + (ss.getD i zS).f1.length) (by omega) (by have := hf.1; have := hf.2.1; omega)
      refine ⟨r, Ev.step (f := fun k => fuguelaw08_longSums.j1 k ss n (i : Int) true) (fun k => ?_) (Ev.step (fun k => ?_) hr1), fun he => ?_⟩
      · simp only [fuguelaw08_longSums.l0]
        rw [if_pos (by omega)]
        simp [fugueref00_Long.f, hL]
      · simp only [fuguelaw08_longSums.j1, if_true]
        rw [if_pos (by omega), if_pos (by omega), rd33]
        congr 1
        have := hf.1
        have := hf.2.1
        unfold wrap64
        omega
      · obtain ⟨h2, h3, h4⟩ := hr2 he
        refine ⟨by omega, fun q hq hq2 => ?_⟩
        by_cases hqj : q = i
        · subst hqj
          refine ⟨by omega, by omega, fun x hx => ?_⟩
          obtain ⟨p, hp, rfl⟩ := List.getElem_of_mem hx
          have := h3 p (by omega) hp
          rwa [show (ss.getD q zS).f1.getD p [] = (ss.getD q zS).f1[p] by rw [List.getD_eq_getElem?_getD, List.getElem?_eq_getElem hp, Option.getD_some]] at this
        · exact h4 q (by omega) hq2
theorem sums_tells (ss : List Smm) (hl : ss.length ≤ 17592186044416) (hr : ∀ s ∈ ss, ReachS s) : ∃ k r, fuguelaw08_longSums.f k ss = some r ∧ (r = false → ss.length ≤ 2147483647 ∧ ∀ s ∈ ss, SmallS s) := by
  obtain ⟨r, h1, h2⟩ := sums_all ss hr (by omega) ss.length 0 (by omega) ss.length (by omega) (by omega)
  obtain ⟨k, hk⟩ := h1.rounds
  refine ⟨k, r, hk, fun he => ⟨by have := (h2 he).1; omega, fun f hf => ?_⟩⟩
  obtain ⟨p, hp, rfl⟩ := List.getElem_of_mem hf
  have := (h2 he).2 p (by omega) hp
  rwa [show ss.getD p zS = ss[p] by simp [hp]] at this
end Go.Proofs.YtcbcacbbnojdjaaDoor
namespace Go.Proofs.YtcbcacbbnojdjaaDoor
open Go.RowKit Go.Proofs.YtcbcacbbnojdjaaDoorW.PrintWords Go.Proofs.YtcbcacbbnojdjaaDoor.PSolveMonotone
set_option linter.unusedVariables false
set_option linter.unusedSimpArgs false
def liveF : Fun := ⟨1, 1, 2, [⟨5, 1, 0, 0, 0, [], []⟩, ⟨15, 0, 0, 0, 0, [1], []⟩]⟩
def liveE : List Edg := [⟨3, 2, -1⟩, ⟨1, 3, 0⟩]
theorem live_edges (sums : List Smm) : (allE liveF sums (1 + liveF.f1 + liveF.f2) liveF.f3.length).1 = liveE := rfl
theorem live_chk : chk 0 [liveF] = 0 := by kernel_rfl
theorem live_res {l : List Int} (h : IsFrom 4 liveE [1] l) : l = [9, 0, -1, 0] := by
  refine h.one ⟨rfl, ⟨fun x => ?_, fun r hr => ?_, fun e he => ?_⟩, fun g hg x => ?_⟩
  · match x with
    | 0 => exact .inr rfl
    | 1 => exact .inl ⟨by decide, by decide⟩
    | 2 => exact .inl ⟨by decide, by decide⟩
    | 3 => exact .inl ⟨by decide, by decide⟩
    | x + 4 => exact .inr rfl
  · obtain rfl := List.mem_singleton.1 hr
    decide
  · rcases List.mem_cons.1 he with rfl | he
    · decide
    · obtain rfl := List.mem_singleton.1 he
      decide
  · have h0 := hg.root 1 (by simp)
    have h1 : g 2 ≤ plus (g 3) (-1) := hg.edge ⟨3, 2, -1⟩ (by simp [liveE])
    have h2 : g 3 ≤ plus (g 1) 0 := hg.edge ⟨1, 3, 0⟩ (by simp [liveE])
    have i1 := hg.inw 1
    have i3 := hg.inw 3
    have h0' : g 1 ≤ 0 := h0
    have h3 : g 3 ≤ 0 := Int.le_trans h2 (by unfold InW at i1; unfold plus wgt; repeat' split; all_goals omega)
    match x with
    | 0 => have := hg.inw 0; unfold InW at this; show g 0 ≤ 9; omega
    | 1 => exact h0'
    | 2 => exact Int.le_trans h1 (by unfold InW at i3; show plus (g 3) (-1) ≤ -1; unfold plus wgt; repeat' split; all_goals omega)
    | 3 => exact h3
    | x + 4 => have := hg.inw (x + 4); unfold InW at this; show g (x + 4) ≤ 9; omega
/-- With roots among 0 and 2. -/
theorem live_heap {R : List Int} {l : List Int} (h : IsFrom 4 liveE R l) (hR : ∀ r ∈ R, r = 0 ∨ r = 2) (x : Nat) : ([0, 9, 0, 9] : List Int).getD x 9 ≤ l.getD x 9 := by
  refine h.top (fun x => ([0, 9, 0, 9] : List Int).getD x 9) ⟨fun x => ?_, fun r hr => ?_, fun e he => ?_⟩ x
  · match x with
    | 0 => exact .inl ⟨by decide, by decide⟩
    | 1 => exact .inr rfl
    | 2 => exact .inl ⟨by decide, by decide⟩
    | 3 => exact .inr rfl
    | x + 4 => exact .inr rfl
  · rcases hR r hr with rfl | rfl <;> decide
  · rcases List.mem_cons.1 he with rfl | he
    · decide
    · obtain rfl := List.mem_singleton.1 he
      decide
theorem live_is {esc : List Bool} {hs : List Int} {rows : List (List Int)} (h : FuncIs liveF liveE esc hs rows) : esc = [false, false, true, false] ∧ hs = [0] ∧ rows = [[0]] := by
  obtain ⟨ress, hh, a⟩ := h
  have e1 : ress.length = 1 := by have := a.rl; have h1 : liveF.f1 = 1 := rfl; omega
  have e2 : hs.length = 1 := by have := a.hl; have h1 : liveF.f0 = 1 := rfl; omega
  have e3 : rows.length = 1 := by have := a.wl; have h1 : liveF.f0 = 1 := rfl; omega
  obtain ⟨r, rfl⟩ := List.length_eq_one_iff.1 e1
  obtain ⟨x, rfl⟩ := List.length_eq_one_iff.1 e2
  obtain ⟨row, rfl⟩ := List.length_eq_one_iff.1 e3
  have hr : r = [9, 0, -1, 0] := live_res (a.rf 0 (by simp))
  subst hr
  have ha := a.ha 0 (by simp)
  have hwa := a.wa 0 (by simp)
  have hwr := a.wr 0 (by simp) 0 (by simp)
  have hp : HeapIs 4 1 liveE [[9, 0, -1, 0]] esc hh := a.hp
  clear a e1 e2 e3
  have hl := hp.len
  have h2 : esc.getD 2 false = true := hp.res _ (List.mem_singleton.2 rfl) 2 (by omega) (by decide) rfl
  have hn : ∀ j, esc.getD j false = true → j = 2 := by
    refine hp.low (· = 2) (fun fl hfl j hj h1 h3 => ?_) (fun l g hl hS hg j hj h1 h3 => ?_)
    · obtain rfl := List.mem_singleton.1 hfl
      rcases (show j = 2 ∨ j = 3 by omega) with rfl | rfl
      · rfl
      · exact absurd h3 (by decide)
    · have := live_heap hg (fun r hr => by
        rcases (mem_roots l r _).1 hr with h0 | ⟨k, hk, hk2, h0⟩
        · exact .inl h0
        · have := hS k hk2; subst this; exact .inr h0) j
      have hgl := hg.len
      rw [getD_90 hgl hj, h3] at this
      rcases (show j = 2 ∨ j = 3 by omega) with rfl | rfl
      · rfl
      · exact absurd this (by decide)
  have hesc : esc = [false, false, true, false] := by
    apply List.ext_getElem (by simpa using hl)
    intro i h3 h4
    have hi : i < 4 := by simpa using h4
    have e : esc.getD i false = esc[i] := by rw [List.getD_eq_getElem?_getD, List.getElem?_eq_getElem h3]; rfl
    rcases (show i = 0 ∨ i = 1 ∨ i = 2 ∨ i = 3 by omega) with rfl | rfl | rfl | rfl
    · cases hb : esc[0] with
      | false => rfl
      | true => rw [hb] at e; exact absurd (hn 0 e) (by decide)
    · cases hb : esc[1] with
      | false => rfl
      | true => rw [hb] at e; exact absurd (hn 1 e) (by decide)
    · rw [h2] at e; exact e.symm
    · cases hb : esc[3] with
      | false => rfl
      | true => rw [hb] at e; exact absurd (hn 3 e) (by decide)
  have hlo := live_heap hp.frm (fun r hr => by
    rcases (mem_roots esc r _).1 hr with h0 | ⟨k, hk, hk2, h0⟩
    · exact .inl h0
    · have := hn k hk2; subst this; exact .inr h0) 2
  have hhi := hp.frm.clo.root 2 ((mem_roots esc 2 _).2 (.inr ⟨2, by omega, h2, rfl⟩))
  have hx : hh.getD 2 9 = 0 := by
    have h3 : hh.getD 2 9 ≤ 0 := hhi
    have h4 : (0 : Int) ≤ hh.getD 2 9 := hlo
    omega
  refine ⟨hesc, ?_, ?_⟩
  · have h3 : x = max (hh.getD 2 9) 0 := ha
    rw [hx] at h3
    rw [h3]; rfl
  · have h3 : row.length = 1 := hwa
    obtain ⟨y, rfl⟩ := List.length_eq_one_iff.1 h3
    have h4 : y = max (-1) 0 := hwr
    rw [h4]; rfl
end Go.Proofs.YtcbcacbbnojdjaaDoor
