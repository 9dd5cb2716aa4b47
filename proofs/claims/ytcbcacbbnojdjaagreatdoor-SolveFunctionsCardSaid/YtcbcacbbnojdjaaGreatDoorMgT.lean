/-
 Part T of what the law's proof needs: walks of the program's functions and the plain laws of what they tell. No condition.
-/
import Derived.Test.YtcbcacbbnojdjaaGreatDoorMgA
import Derived.Test.YtcbcacbbnojdjaaGreatDoorMgAC
import Derived.SizedLaws
import Derived.ChangeArms
import Derived.ChangeSlices
import Derived.DataElems
import Derived.WideShapes
import Derived.Test.YtcbcacbbnojdjaaGreatDoorRows
import Derived.ProofKit
import Derived.LaidMore
import Derived.OpenShut
namespace Go.Proofs.YtcbcacbbnojdjaaGreatDoor.Opening
open Go.Proofs.YtcbcacbbnojdjaaGreatDoorW.PrintWords Go.WideShapes
def Opens {α : Type} (P : Program) (t : TypeId) (d : Kd α) (Fit : α → Prop) : Prop :=
 ∀ (H : Type) (enc : TypeId × Value → H) (w : World) (fuel : Nat) (cs : List Value) (x : DataW H × List MemPlace),
  DataW.trod enc P w 0 (fun _ => true) true fuel t cs = some x → (∀ n ∈ DataW.weights P t x.1, n ≤ reachBytes) → ∃ v : α, d.K w v cs ∧ Fit v
theorem opens_int {P : Program} {t : TypeId} {k : IntKind} (ht : P.underlying t = some (.int k)) : Opens P t (Kd.int k) (fun n => (Lit.int k n).wf = true) := by
 intro H enc w fuel cs x h _
 obtain ⟨n, hc, _, hw⟩ := DataW.trod_int ht h
 exact ⟨n, hc, hw⟩
theorem list_of {α : Type} {R : Nat → α → Prop} : ∀ n : Nat, (∀ i, i < n → ∃ v, R i v) → ∃ xs : List α, xs.length = n ∧ ∀ i v, xs[i]? = some v → R i v
 | 0, _ => ⟨[], rfl, fun i v h => by simp at h⟩
 | n + 1, h => by
  obtain ⟨xs, hl, hr⟩ := list_of n (fun i hi => h i (by omega))
  obtain ⟨v, hv⟩ := h n (by omega)
  refine ⟨xs ++ [v], by simp [hl], fun i u hu => ?_⟩
  by_cases hi : i < n
  ·rw [List.getElem?_append_left (by omega)] at hu
   exact hr i u hu
  ·have h1 := (List.getElem?_eq_some_iff.1 hu).1
   simp only [List.length_append, List.length_cons, List.length_nil] at h1
   obtain rfl : i = n := by omega
   rw [List.getElem?_append_right (by omega), hl, Nat.sub_self] at hu
   simp at hu
   subst hu
   exact hv
theorem weightsAll_mem {H : Type} {P : Program} {e : TypeId} : ∀ {l : List (DataW H)} {d : DataW H}, d ∈ l → ∀ n ∈ DataW.weights P e d, n ∈ DataW.weightsAll P e l
 | y :: l, d, hd, n, hn => by
  simp only [DataW.weightsAll, List.mem_append]
  rcases List.mem_cons.1 hd with rfl | hd
  ·exact .inl hn
  ·exact .inr (weightsAll_mem hd n hn)
theorem opens_slice {α : Type} {P : Program} {t e : TypeId} {d : Kd α} {Fit : α → Prop} {B : Nat} (ht : P.underlying t = some (.slice e)) (hc : P.cellsOf e = d.sz) (hB : P.bytesOf e = B) (h : Opens P e d Fit) :
  Opens P t (Kd.slice e d) (fun xs => xs.length * B ≤ 140737488351232 ∧ ∀ x ∈ xs, Fit x) := by
 intro H enc w fuel cs x hx hs
 rcases DataW.trod_slice ht hx with ⟨rfl, rfl⟩ | ⟨a, len, cap, elems, rest, n, _, rfl, rfl, hb, hl, hm, hlen, hel, _, _⟩
 ·exact ⟨[], ⟨none, 0, rfl, Nat.le_refl _, by simp, by simp, fun h => by simp at h⟩, by simp, by simp⟩
 ·have hw : ∀ i, i < len → ∃ v : α, (∃ c, c.length = d.sz ∧ d.K w v c ∧ ∀ j u, c[j]? = some u → w.cell? (a.add (i * d.sz + j)) = some u) ∧ Fit v := by
   intro i hi
   have h1 := hel i hi
   rw [List.getElem?_eq_getElem (by omega)] at h1
   obtain ⟨cs', hcs, htr⟩ := Option.bind_eq_some_iff.1 h1
   have hw' : ∀ m ∈ DataW.weights P e elems[i].1, m ≤ reachBytes := fun m hm' => by
    refine hs m ?_
    simp only [DataW.weights, ht]
    exact List.mem_cons_of_mem _ (List.mem_append_left _ (weightsAll_mem (List.mem_map.2 ⟨_, List.getElem_mem _, rfl⟩) m hm'))
   obtain ⟨v, hv, hf⟩ := h H enc w n cs' elems[i] htr hw'
   refine ⟨v, ⟨cs', d.K_len hv, hv, fun j u hu => ?_⟩, hf⟩
   unfold World.cells? at hcs
   split at hcs
   ·have hj := (List.getElem?_eq_some_iff.1 hu).1
    rw [d.K_len hv, ← hc] at hj
    have h2 := mapM_some_get hcs j j (by simp [hj])
    rw [Addr.add_add, hu, hc] at h2
    exact h2
   ·cases hcs
  obtain ⟨xs, hxl, hxs⟩ := list_of len hw
  refine ⟨xs, ⟨some a, cap, by rw [hxl], by omega, rfl, by rw [hxl]; simp only [maxLen] at hm; omega, fun _ => ⟨a, rfl, fun j p hj => (hxs j p hj).1⟩⟩, ?_, ?_⟩
  ·have h1 := hs ((elems.length + rest.length) * P.bytesOf e) (by simp [DataW.weights, ht])
   rw [hB] at h1
   have h2 : xs.length * B ≤ (elems.length + rest.length) * B := Nat.mul_le_mul_right _ (by omega)
   exact Nat.le_trans h2 h1
  ·intro x hx'
   obtain ⟨i, hi, rfl⟩ := List.getElem_of_mem hx'
   exact (hxs i _ (List.getElem?_eq_getElem hi)).2
def OpensF {α : Type} (P : Program) (fs : List Field) (off : Nat) (d : Kd α) (Fit : α → Prop) : Prop :=
 ∀ (H : Type) (enc : TypeId × Value → H) (w : World) (fuel : Nat) (cs : List Value) (ys : List (DataW H × List MemPlace)), ys.length = fs.length → cs.length = off + d.sz →
  (∀ (i : Nat) (f : Field), fs[i]? = some f → DataW.trod enc P w 0 (fun _ => true) true fuel f.type ((cs.drop f.offset).take (P.cellsOf f.type)) = ys[i]?) →
  (∀ n ∈ DataW.weightsEach P (fs.map (·.type)) (ys.map (·.1)), n ≤ reachBytes) → ∃ v : α, d.K w v (cs.drop off) ∧ Fit v
theorem opensF_one {α : Type} {P : Program} {f : Field} {off : Nat} {d : Kd α} {Fit : α → Prop} (ho : f.offset = off) (hc : P.cellsOf f.type = d.sz) (h : Opens P f.type d Fit) : OpensF P [f] off d Fit := by
 intro H enc w fuel cs ys hl hcs ht hw
 match ys, hl with
 | [y], _ =>
  have h1 := ht 0 f rfl
  rw [ho, hc, List.take_of_length_le (by rw [List.length_drop]; omega)] at h1
  exact h H enc w fuel _ y h1 (fun n hn => hw n (by simp [DataW.weightsEach, hn]))
theorem opensF_cons {α β : Type} {P : Program} {f : Field} {fs : List Field} {off : Nat} {a : Kd α} {b : Kd β} {Fa : α → Prop} {Fb : β → Prop} (ho : f.offset = off) (hc : P.cellsOf f.type = a.sz)
  (h : Opens P f.type a Fa) (hr : OpensF P fs (off + a.sz) b Fb) : OpensF P (f :: fs) off (Kd.pair a b) (fun x => Fa x.1 ∧ Fb x.2) := by
 intro H enc w fuel cs ys hl hcs ht hw
 match ys, hl with
 | y :: ys, hl =>
  have hsz : (Kd.pair a b).sz = a.sz + b.sz := rfl
  have h1 := ht 0 f rfl
  rw [ho, hc] at h1
  obtain ⟨v0, hk0, hf0⟩ := h H enc w fuel _ y h1 (fun n hn => hw n (by simp [DataW.weightsEach, hn]))
  obtain ⟨v1, hk1, hf1⟩ := hr H enc w fuel cs ys (by simpa using hl) (by omega) (fun i g hg => by have := ht (i + 1) g (by simpa using hg); simpa using this)
   (fun n hn => hw n (by simp only [List.map_cons, DataW.weightsEach, List.mem_append]; exact .inr hn))
  refine ⟨(v0, v1), ⟨_, _, ?_, hk0, hk1⟩, hf0, hf1⟩
  rw [← List.drop_drop, List.take_append_drop]
theorem opens_struct {α : Type} {P : Program} {t : TypeId} {fs : Array Field} {d : Kd α} {Fit : α → Prop} (ht : P.underlying t = some (.struct fs)) (hc : P.cellsOf t = d.sz) (h : OpensF P fs.toList 0 d Fit) : Opens P t d Fit := by
 intro H enc w fuel cs x hx hs
 obtain ⟨xs, n, _, rfl, hl, hxl, hf⟩ := DataW.trod_struct ht hx
 obtain ⟨v, hk, hfit⟩ := h H enc w n cs xs (by simpa using hxl) (by omega) (fun i f hi => hf i f (by simpa using hi))
  (fun m hm => hs m (by simp only [DataW.weights, ht]; exact hm))
 exact ⟨v, hk, hfit⟩
theorem opens_iso {α β : Type} {P : Program} {t : TypeId} {d : Kd α} {Fit : α → Prop} {f : β → α} (h : Opens P t d Fit) (hf : ∀ y, ∃ x, f x = y) : Opens P t (Kd.iso d f) (fun x => Fit (f x)) := by
 intro H enc w fuel cs x hx hs
 obtain ⟨v, hk, hfit⟩ := h H enc w fuel cs x hx hs
 obtain ⟨u, rfl⟩ := hf v
 exact ⟨u, hk, hfit⟩
theorem open_arg_slice {H : Type} {enc : TypeId × Value → H} {α : Type} {P : Program} {t e : TypeId} {d : Kd α} {Fit : List α → Prop} {w : World} {v : Value} {dd : DataW H} {ps : List MemPlace} {r : Reach} {base : Nat}
  (ht : P.underlying t = some (.slice e)) (h : Opens P t (Kd.slice e d) Fit) (ho : Value.okWide P w r base t v) (hd : DataW.Trod enc P w 0 (fun _ => true) true t v dd ps) (hs : ∀ n ∈ DataW.weights P t dd, n ≤ reachBytes) :
  ∃ (A : Option Addr) (c : Nat) (xs : List α), v = .slice A xs.length c ∧ xs.length ≤ c ∧ d.C w A xs.length xs ∧ Fit xs := by
 obtain ⟨A, n, c, rfl⟩ := okWide_slice ht ho
 obtain ⟨fuel, hf⟩ := hd
 obtain ⟨xs, ⟨A', c', he, hl, hc⟩, hfit⟩ := h H enc w fuel _ _ hf hs
 simp only [Value.cells, List.cons.injEq, and_true] at he
 exact ⟨A', c', xs, he, hl, hc, hfit⟩
theorem open_arg_struct {H : Type} {enc : TypeId × Value → H} {α : Type} {P : Program} {t : TypeId} {fs : Array Field} {d : Kd α} {Fit : α → Prop} {w : World} {v : Value} {dd : DataW H} {ps : List MemPlace} {r : Reach} {base : Nat}
  (ht : P.underlying t = some (.struct fs)) (h : Opens P t d Fit) (ho : Value.okWide P w r base t v) (hd : DataW.Trod enc P w 0 (fun _ => true) true t v dd ps) (hs : ∀ n ∈ DataW.weights P t dd, n ≤ reachBytes) :
  ∃ (cs : Array Value) (x : α), v = .agg cs ∧ d.K w x cs.toList ∧ Fit x := by
 obtain ⟨cs, rfl, _⟩ := okWide_struct ht ho
 obtain ⟨fuel, hf⟩ := hd
 obtain ⟨x, hk, hfit⟩ := h H enc w fuel _ _ hf hs
 exact ⟨cs, x, rfl, hk, hfit⟩
theorem weights_of {H : Type} {P : Program} {ts : List TypeId} {ds : List (DataW H)} {j : Nat} {t : TypeId} {d : DataW H} (h : (DataW.weightsEach P ts ds).all (· ≤ reachBytes) = true) (ht : ts[j]? = some t) (hd : ds[j]? = some d) :
  ∀ n ∈ DataW.weights P t d, n ≤ reachBytes := fun n hn => by
 have := List.all_eq_true.1 h n (DataW.weights_mem_each ht hd n hn)
 simpa using this
end Go.Proofs.YtcbcacbbnojdjaaGreatDoor.Opening
namespace Go.Proofs.YtcbcacbbnojdjaaGreatDoor
open Go.RowKit Go.ChangeShapes Go.WideShapes Go.ChangeAt Go.Proofs.YtcbcacbbnojdjaaGreatDoorW.PrintWords Go.Proofs.YtcbcacbbnojdjaaGreatDoor.PSolveFunctions
set_option linter.unusedVariables false
set_option linter.unusedSimpArgs false
abbrev wfI (n : Int) : Prop := (Lit.int .i64 n).wf = true
abbrev fitL (xs : List Int) : Prop := xs.length * 8 ≤ 140737488351232 ∧ ∀ x ∈ xs, wfI x
abbrev fitI (x : Ins) : Prop := wfI x.f0 ∧ wfI x.f1 ∧ wfI x.f2 ∧ wfI x.f3 ∧ wfI x.f4 ∧ fitL x.f5 ∧ fitL x.f6
abbrev fitF (f : Fun) : Prop := wfI f.f0 ∧ wfI f.f1 ∧ wfI f.f2 ∧ (f.f3.length * 88 ≤ 140737488351232 ∧ ∀ x ∈ f.f3, fitI x)
abbrev fitFs (fs : List Fun) : Prop := fs.length * 48 ≤ 140737488351232 ∧ ∀ f ∈ fs, fitF f
abbrev fitLL (xs : List (List Int)) : Prop := xs.length * 24 ≤ 140737488351232 ∧ ∀ x ∈ xs, fitL x
abbrev fitS (s : Smm) : Prop := fitL s.f0 ∧ fitLL s.f1
abbrev fitSs (ss : List Smm) : Prop := ss.length * 48 ≤ 140737488351232 ∧ ∀ s ∈ ss, fitS s
theorem opensL : Opening.Opens Tryz.prog 31 (Kd.slice 3 (Kd.int .i64)) fitL := Opening.opens_slice Tryz.underlying31 (by kernel_rfl) (by kernel_rfl) (Opening.opens_int Tryz.underlying3)
theorem opensLL : Opening.Opens Tryz.prog 32 (Kd.slice 31 (Kd.slice 3 (Kd.int .i64))) fitLL := Opening.opens_slice Tryz.underlying32 (by kernel_rfl) (by kernel_rfl) opensL
theorem opensN : Opening.Opens Tryz.prog 3 (Kd.int .i64) wfI := Opening.opens_int Tryz.underlying3
theorem opensI : Opening.Opens Tryz.prog 79 k79 fitI :=
 Opening.opens_iso (Opening.opens_struct Tryz.underlying79 (by kernel_rfl)
  (Opening.opensF_cons rfl (by kernel_rfl) opensN (Opening.opensF_cons rfl (by kernel_rfl) opensN (Opening.opensF_cons rfl (by kernel_rfl) opensN (Opening.opensF_cons rfl (by kernel_rfl) opensN (Opening.opensF_cons rfl (by kernel_rfl) opensN
   (Opening.opensF_cons rfl (by kernel_rfl) opensL (Opening.opensF_one rfl (by kernel_rfl) opensL)))))))) (fun y => ⟨⟨y.1, y.2.1, y.2.2.1, y.2.2.2.1, y.2.2.2.2.1, y.2.2.2.2.2.1, y.2.2.2.2.2.2⟩, rfl⟩)
theorem opensCode : Opening.Opens Tryz.prog 64 (Kd.slice 79 k79) (fun xs => xs.length * 88 ≤ 140737488351232 ∧ ∀ x ∈ xs, fitI x) := Opening.opens_slice Tryz.underlying64 (by kernel_rfl) (by kernel_rfl) opensI
theorem opensFn : Opening.Opens Tryz.prog 66 k66 fitF :=
 Opening.opens_iso (Opening.opens_struct Tryz.underlying66 (by kernel_rfl)
  (Opening.opensF_cons rfl (by kernel_rfl) opensN (Opening.opensF_cons rfl (by kernel_rfl) opensN (Opening.opensF_cons rfl (by kernel_rfl) opensN (Opening.opensF_one rfl (by kernel_rfl) opensCode))))) (fun y => ⟨⟨y.1, y.2.1, y.2.2.1, y.2.2.2⟩, rfl⟩)
theorem opensFuncs : Opening.Opens Tryz.prog 22 (Kd.slice 66 k66) fitFs := Opening.opens_slice Tryz.underlying22 (by kernel_rfl) (by kernel_rfl) opensFn
theorem opensProg : Opening.Opens Tryz.prog 24 (Kd.pair (Kd.int .i64) (Kd.slice 66 k66)) (fun x => wfI x.1 ∧ fitFs x.2) :=
 Opening.opens_struct Tryz.underlying24 (by kernel_rfl) (Opening.opensF_cons rfl (by kernel_rfl) opensN (Opening.opensF_one rfl (by kernel_rfl) opensFuncs))
theorem opensSum : Opening.Opens Tryz.prog 34 k34 fitS :=
 Opening.opens_iso (Opening.opens_struct Tryz.underlying34 (by kernel_rfl)
  (Opening.opensF_cons rfl (by kernel_rfl) opensL (Opening.opensF_one rfl (by kernel_rfl) opensLL))) (fun y => ⟨⟨y.1, y.2⟩, rfl⟩)
theorem opensSums : Opening.Opens Tryz.prog 25 (Kd.slice 34 k34) fitSs := Opening.opens_slice Tryz.underlying25 (by kernel_rfl) (by kernel_rfl) opensSum
theorem prog_cells {w : World} {cs : Array Value} {x : Int × List Fun} (h : (Kd.pair (Kd.int .i64) (Kd.slice 66 k66)).K w x cs.toList) : ∃ A c, cs = #[.int .i64 x.1, .slice A x.2.length c] ∧ x.2.length ≤ c ∧ k66.C w A x.2.length x.2 := by
 obtain ⟨c0, c1, he, h0, ⟨A, c, h1, hc, hC⟩⟩ := h
 have h0 : c0 = [.int .i64 x.1] := h0
 subst h0
 subst h1
 exact ⟨A, c, by cases cs; simpa using he, hc, hC⟩
theorem reachF_of {f : Fun} (h : fitF f) : ReachF f := ⟨by have := h.2.2.2.1; omega, fun x hx => by
 have h2 := (h.2.2.2.2 x hx).2.2.2.2.2
 exact ⟨by have := h2.1.1; omega, by have := h2.2.1; omega⟩⟩
theorem reachS_of {s : Smm} (h : fitS s) : ReachS s := ⟨by have := h.1.1; omega, by have := h.2.1; omega, fun r hr => by have := (h.2.2 r hr).1; omega⟩
theorem funcs_fit (w : World) (cs : Array Value) (x : Int × List Fun) (hk : (Kd.pair (Kd.int .i64) (Kd.slice 66 k66)).K w x cs.toList) (hx : wfI x.1 ∧ fitFs x.2) (SA : Option Addr) (sl : Nat) (xa : List Smm) (hacap : xa.length ≤ sl) (hA : k34.C w SA xa.length xa) (fa : fitSs xa) (odd : Int) (htl : TellsAt w) :
  Calls Tryz.prog 3 #[.agg cs, .slice SA xa.length sl, .int .i64 odd] w fun e w' => e = .returned (.bool true) ∧ Below w.heap.size w w' := by
 obtain ⟨A, c, rfl, hc, hC⟩ := prog_cells hk
 exact funcs_law x.1 odd A c x.2 SA xa sl w hC hc hA hacap (by have := hx.2.1; omega) (fun f hf => reachF_of (hx.2.2 f hf)) (by have := fa.1; omega) (fun s hs => reachS_of (fa.2 s hs)) htl
theorem gTells : Tryz.prog.globalNamed "fugue/flow.tells" = some 0 := by kernel_rfl
theorem tTells : (Tryz.prog.globals[0]?).map (·.type) = some 227 := by kernel_rfl
def tellsD : List (DataW Unit) := tellsOf.map fun p => .agg [.lit (.int .i64 p.1), .lit (.int .i64 p.2)]
theorem tells_is : (Rows.laid_fugue_flow_tells : DataW Unit) = .agg tellsD := rfl
theorem tells_cells {enc : TypeId × Value → Unit} {W : World} {base : Nat} {sp : Nat → Bool} {held : Bool} {fuel : Nat} {cs : List Value} {ps : List MemPlace} (h : DataW.trod enc Tryz.prog W base sp held fuel 227 cs = some (.agg tellsD, ps)) :
  ∀ k, k < 18 → cs[k * 2]? = some (.int .i64 (tellsOf.getD k (0, 0)).1) ∧ cs[k * 2 + 1]? = some (.int .i64 (tellsOf.getD k (0, 0)).2) := by
 obtain ⟨xs, m, _, hx, _, hn, hel⟩ := DataW.trod_array Tryz.underlying227 h
 have c2 : Tryz.prog.cellsOf 226 = 2 := by kernel_rfl
 have c1 : Tryz.prog.cellsOf 3 = 1 := by kernel_rfl
 simp only [Prod.mk.injEq, DataW.agg.injEq] at hx
 intro k hk
 have hel := hel k hk
 rw [c2, List.getElem?_eq_getElem (by omega)] at hel
 have hxk : (xs[k]'(by omega)).1 = .agg [.lit (.int .i64 (tellsOf.getD k (0, 0)).1), .lit (.int .i64 (tellsOf.getD k (0, 0)).2)] := by
  have h1 : (xs.map (·.1))[k]? = tellsD[k]? := by rw [← hx.1]
  rw [List.getElem?_map, List.getElem?_eq_getElem (by omega), tellsD, List.getElem?_map, List.getElem?_eq_getElem (show k < tellsOf.length from hk)] at h1
  simp only [Option.map_some, Option.some.injEq] at h1
  rw [h1, List.getD_eq_getElem?_getD, List.getElem?_eq_getElem (show k < tellsOf.length from hk)]
  rfl
 obtain ⟨ys, m', _, hy, _, hyl, hf⟩ := DataW.trod_struct Tryz.underlying226 hel
 rw [hy] at hxk
 simp only [DataW.agg.injEq] at hxk
 have hf0 := hf 0 _ rfl
 have hf1 := hf 1 _ rfl
 match ys, hyl, hxk, hf0, hf1 with
 | [y0, y1], _, hxk, hf0, hf1 =>
  simp only [List.map_cons, List.map_nil, List.cons.injEq, and_true] at hxk
  have k0 : DataW.trod enc Tryz.prog W base sp held m' 3 (List.take (Tryz.prog.cellsOf 3) (List.drop 0 (List.take 2 (List.drop (k * 2) cs)))) = some y0 := hf0
  have k1 : DataW.trod enc Tryz.prog W base sp held m' 3 (List.take (Tryz.prog.cellsOf 3) (List.drop 1 (List.take 2 (List.drop (k * 2) cs)))) = some y1 := hf1
  rw [c1] at k0 k1
  obtain ⟨n0, e0, f0, _⟩ := DataW.trod_int Tryz.underlying3 k0
  obtain ⟨n1, e1, f1, _⟩ := DataW.trod_int Tryz.underlying3 k1
  rw [f0, f1] at hxk
  simp only [DataW.lit.injEq, Lit.int.injEq, true_and] at hxk
  obtain ⟨rfl, rfl⟩ := hxk
  have g0 := congrArg (fun l : List Value => l[0]?) e0
  have g1 := congrArg (fun l : List Value => l[0]?) e1
  simp only [List.getElem?_take, List.getElem?_drop] at g0 g1
  exact ⟨by simpa using g0, by simpa using g1⟩
theorem tells_of {W : World} (h : laidMetH Tryz.prog Rows.solveFunctionsRow.laid W) : TellsAt W := by
 rw [MakeChecks.laidMetH_plain _ _ _ (by kernel_rfl)] at h
 obtain ⟨ps, ⟨g0, t0, cs0, f0, p0, q0, hg0, ht0, hv0, hd0, ⟨g1, t1, cs1, f1, p1, q1, hg1, ht1, hv1, hd1, _, _⟩, _⟩, _, _⟩ := h
 obtain rfl := Option.some.inj (gTells.symm.trans hg1)
 obtain rfl := Option.some.inj (tTells.symm.trans ht1)
 intro k hk
 obtain ⟨a, b⟩ := tells_cells (tells_is ▸ hd1) k hk
 exact ⟨(World.var?_cell hg1 hv1 (k * 2)).trans (by simpa using a), (World.var?_cell hg1 hv1 (k * 2 + 1)).trans (by simpa using b)⟩
end Go.Proofs.YtcbcacbbnojdjaaGreatDoor
