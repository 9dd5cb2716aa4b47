/-
  From the reading of an argument to what its cells say, kind by kind: an argument that reads as data holds a value of its kind, each of its lists within the reach.
-/
import Derived.Test.YteohlbnmmlejnaaWWords
import Derived.SizedLaws
import Derived.ChangeArms
import Derived.ChangeSlices
import Derived.DataElems
import Derived.WideShapes
namespace Go.Proofs.Yteohlbnmmlejnaa.Opening
open Go.Proofs.YteohlbnmmlejnaaW.PrintWords Go.WideShapes

/-- Whatever reads as data of type t holds a value of the kind d that fits. -/
def Opens {α : Type} (P : Program) (t : TypeId) (d : Kd α) (Fit : α → Prop) : Prop :=
  ∀ (H : Type) (enc : TypeId × Value → H) (w : World) (fuel : Nat) (cs : List Value) (x : DataW H × List MemPlace),
    DataW.trod enc P w 0 (fun _ => true) true fuel t cs = some x → (∀ n ∈ DataW.weights P t x.1, n ≤ reachBytes) → ∃ v : α, d.K w v cs ∧ Fit v

theorem opens_int {P : Program} {t : TypeId} {k : IntKind} (ht : P.underlying t = some (.int k)) : Opens P t (Kd.int k) (fun n => (Lit.int k n).wf = true) := by
  intro H enc w fuel cs x h _
  obtain ⟨n, hc, _, hw⟩ := DataW.trod_int ht h
  exact ⟨n, hc, hw⟩
theorem opens_bool {P : Program} {t : TypeId} (ht : P.underlying t = some .bool) : Opens P t Kd.bool (fun _ => True) := by
  intro H enc w fuel cs x h _
  obtain ⟨n, hc, _⟩ := DataW.trod_bool ht h
  exact ⟨n, hc, trivial⟩
theorem opens_string {P : Program} {t : TypeId} (ht : P.underlying t = some .string) : Opens P t Kd.string (fun s => s.size ≤ 140737488351232) := by
  intro H enc w fuel cs x h hs
  obtain ⟨n, hc, hx, _⟩ := DataW.trod_string ht h
  refine ⟨n, hc, ?_⟩
  subst hx
  exact hs _ (by simp [DataW.weights])

theorem list_of {α : Type} {R : Nat → α → Prop} : ∀ n : Nat, (∀ i, i < n → ∃ v, R i v) → ∃ xs : List α, xs.length = n ∧ ∀ i v, xs[i]? = some v → R i v
  | 0, _ => ⟨[], rfl, fun i v h => by simp at h⟩
  | n + 1, h => by
    obtain ⟨xs, hl, hr⟩ := list_of n (fun i hi => h i (by omega))
    obtain ⟨v, hv⟩ := h n (by omega)
    refine ⟨xs ++ [v], by simp [hl], fun i u hu => ?_⟩
    by_cases hi : i < n
    · rw [List.getElem?_append_left (by omega)] at hu
      exact hr i u hu
    · have h1 := (List.getElem?_eq_some_iff.1 hu).1
      simp only [List.length_append, List.length_cons, List.length_nil] at h1
      obtain rfl : i = n := by omega
      rw [List.getElem?_append_right (by omega), hl, Nat.sub_self] at hu
      simp at hu
      subst hu
      exact hv

theorem weightsAll_mem {H : Type} {P : Program} {e : TypeId} : ∀ {l : List (DataW H)} {d : DataW H}, d ∈ l → ∀ n ∈ DataW.weights P e d, n ∈ DataW.weightsAll P e l
  | y :: l, d, hd, n, hn => by
    simp only [DataW.weightsAll, List.mem_append]
    rcases List.mem_cons.1 hd with rfl | hd
    · exact .inl hn
    · exact .inr (weightsAll_mem hd n hn)

theorem opens_slice {α : Type} {P : Program} {t e : TypeId} {d : Kd α} {Fit : α → Prop} {B : Nat} (ht : P.underlying t = some (.slice e)) (hc : P.cellsOf e = d.sz) (hB : P.bytesOf e = B) (h : Opens P e d Fit) :
    Opens P t (Kd.slice e d) (fun xs => xs.length * B ≤ 140737488351232 ∧ ∀ x ∈ xs, Fit x) := by
  intro H enc w fuel cs x hx hs
  rcases DataW.trod_slice ht hx with ⟨rfl, rfl⟩ | ⟨a, len, cap, elems, rest, n, _, rfl, rfl, hb, hl, hm, hlen, hel, _, _⟩
  · exact ⟨[], ⟨none, 0, rfl, Nat.le_refl _, by simp, by simp, fun h => by simp at h⟩, by simp, by simp⟩
  · have hw : ∀ i, i < len → ∃ v : α, (∃ c, c.length = d.sz ∧ d.K w v c ∧ ∀ j u, c[j]? = some u → w.cell? (a.add (i * d.sz + j)) = some u) ∧ Fit v := by
      intro i hi
      have h1 := hel i hi
      rw [List.getElem?_eq_getElem (by omega)] at h1
      obtain ⟨cs', hcs, htr⟩ := Option.bind_eq_some_iff.1 h1
      have hw' : ∀ m ∈ DataW.weights P e elems[i].1, m ≤ reachBytes := fun m hm' => by
        refine hs m ?_
        simp only [DataW.weights, ht]
        exact List.mem_cons_of_mem _ (List.mem_append_left _ (weightsAll_mem (List.mem_map.2 ⟨_, List.getElem_mem _, rfl⟩) m hm'))
      obtain ⟨v, hv, hf⟩ := h H enc w n cs' elems[i] htr hw'
      refine ⟨v, ⟨cs', d.K_len hv, hv, fun j u hu => ?_⟩, hf⟩
      unfold World.cells? at hcs
      split at hcs
      · have hj := (List.getElem?_eq_some_iff.1 hu).1
        rw [d.K_len hv, ← hc] at hj
        have h2 := mapM_some_get hcs j j (by simp [hj])
        rw [Addr.add_add, hu, hc] at h2
        exact h2
      · cases hcs
    obtain ⟨xs, hxl, hxs⟩ := list_of len hw
    refine ⟨xs, ⟨some a, cap, by rw [hxl], by omega, rfl, by rw [hxl]; simp only [maxLen] at hm; omega, fun _ => ⟨a, rfl, fun j p hj => (hxs j p hj).1⟩⟩, ?_, ?_⟩
    · have h1 := hs ((elems.length + rest.length) * P.bytesOf e) (by simp [DataW.weights, ht])
      rw [hB] at h1
      have h2 : xs.length * B ≤ (elems.length + rest.length) * B := Nat.mul_le_mul_right _ (by omega)
      exact Nat.le_trans h2 h1
    · intro x hx'
      obtain ⟨i, hi, rfl⟩ := List.getElem_of_mem hx'
      exact (hxs i _ (List.getElem?_eq_getElem hi)).2

/-- the fields of a struct from an offset on -/
def OpensF {α : Type} (P : Program) (fs : List Field) (off : Nat) (d : Kd α) (Fit : α → Prop) : Prop :=
  ∀ (H : Type) (enc : TypeId × Value → H) (w : World) (fuel : Nat) (cs : List Value) (ys : List (DataW H × List MemPlace)), ys.length = fs.length → cs.length = off + d.sz →
    (∀ (i : Nat) (f : Field), fs[i]? = some f → DataW.trod enc P w 0 (fun _ => true) true fuel f.type ((cs.drop f.offset).take (P.cellsOf f.type)) = ys[i]?) →
    (∀ n ∈ DataW.weightsEach P (fs.map (·.type)) (ys.map (·.1)), n ≤ reachBytes) → ∃ v : α, d.K w v (cs.drop off) ∧ Fit v

theorem opensF_one {α : Type} {P : Program} {f : Field} {off : Nat} {d : Kd α} {Fit : α → Prop} (ho : f.offset = off) (hc : P.cellsOf f.type = d.sz) (h : Opens P f.type d Fit) : OpensF P [f] off d Fit := by
  intro H enc w fuel cs ys hl hcs ht hw
  match ys, hl with
  | [y], _ =>
    have h1 := ht 0 f rfl
    rw [ho, hc, List.take_of_length_le (by rw [List.length_drop]; omega)] at h1
    exact h H enc w fuel _ y h1 (fun n hn => hw n (by simp [DataW.weightsEach, hn]))

theorem opensF_cons {α β : Type} {P : Program} {f : Field} {fs : List Field} {off : Nat} {a : Kd α} {b : Kd β} {Fa : α → Prop} {Fb : β → Prop} (ho : f.offset = off) (hc : P.cellsOf f.type = a.sz)
    (h : Opens P f.type a Fa) (hr : OpensF P fs (off + a.sz) b Fb) : OpensF P (f :: fs) off (Kd.pair a b) (fun x => Fa x.1 ∧ Fb x.2) := by
  intro H enc w fuel cs ys hl hcs ht hw
  match ys, hl with
  | y :: ys, hl =>
    have hsz : (Kd.pair a b).sz = a.sz + b.sz := rfl
    have h1 := ht 0 f rfl
    rw [ho, hc] at h1
    obtain ⟨v0, hk0, hf0⟩ := h H enc w fuel _ y h1 (fun n hn => hw n (by simp [DataW.weightsEach, hn]))
    obtain ⟨v1, hk1, hf1⟩ := hr H enc w fuel cs ys (by simpa using hl) (by omega) (fun i g hg => by have := ht (i + 1) g (by simpa using hg); simpa using this)
      (fun n hn => hw n (by simp only [List.map_cons, DataW.weightsEach, List.mem_append]; exact .inr hn))
    refine ⟨(v0, v1), ⟨_, _, ?_, hk0, hk1⟩, hf0, hf1⟩
    rw [← List.drop_drop, List.take_append_drop]

theorem opens_struct {α : Type} {P : Program} {t : TypeId} {fs : Array Field} {d : Kd α} {Fit : α → Prop} (ht : P.underlying t = some (.struct fs)) (hc : P.cellsOf t = d.sz) (h : OpensF P fs.toList 0 d Fit) : Opens P t d Fit := by
  intro H enc w fuel cs x hx hs
  obtain ⟨xs, n, _, rfl, hl, hxl, hf⟩ := DataW.trod_struct ht hx
  obtain ⟨v, hk, hfit⟩ := h H enc w n cs xs (by simpa using hxl) (by omega) (fun i f hi => hf i f (by simpa using hi))
    (fun m hm => hs m (by simp only [DataW.weights, ht]; exact hm))
  exact ⟨v, hk, hfit⟩

theorem opens_iso {α β : Type} {P : Program} {t : TypeId} {d : Kd α} {Fit : α → Prop} {f : β → α} (h : Opens P t d Fit) (hf : ∀ y, ∃ x, f x = y) : Opens P t (Kd.iso d f) (fun x => Fit (f x)) := by
  intro H enc w fuel cs x hx hs
  obtain ⟨v, hk, hfit⟩ := h H enc w fuel cs x hx hs
  obtain ⟨u, rfl⟩ := hf v
  exact ⟨u, hk, hfit⟩

/-- A parameter that is a slice. -/
theorem open_arg_slice {H : Type} {enc : TypeId × Value → H} {α : Type} {P : Program} {t e : TypeId} {d : Kd α} {Fit : List α → Prop} {w : World} {v : Value} {dd : DataW H} {ps : List MemPlace} {r : Reach} {base : Nat}
    (ht : P.underlying t = some (.slice e)) (h : Opens P t (Kd.slice e d) Fit) (ho : Value.okWide P w r base t v) (hd : DataW.Trod enc P w 0 (fun _ => true) true t v dd ps) (hs : ∀ n ∈ DataW.weights P t dd, n ≤ reachBytes) :
    ∃ (A : Option Addr) (c : Nat) (xs : List α), v = .slice A xs.length c ∧ xs.length ≤ c ∧ d.C w A xs.length xs ∧ Fit xs := by
  obtain ⟨A, n, c, rfl⟩ := okWide_slice ht ho
  obtain ⟨fuel, hf⟩ := hd
  obtain ⟨xs, ⟨A', c', he, hl, hc⟩, hfit⟩ := h H enc w fuel _ _ hf hs
  simp only [Value.cells, List.cons.injEq, and_true] at he
  exact ⟨A', c', xs, he, hl, hc, hfit⟩
/-- A parameter that is a struct. -/
theorem open_arg_struct {H : Type} {enc : TypeId × Value → H} {α : Type} {P : Program} {t : TypeId} {fs : Array Field} {d : Kd α} {Fit : α → Prop} {w : World} {v : Value} {dd : DataW H} {ps : List MemPlace} {r : Reach} {base : Nat}
    (ht : P.underlying t = some (.struct fs)) (h : Opens P t d Fit) (ho : Value.okWide P w r base t v) (hd : DataW.Trod enc P w 0 (fun _ => true) true t v dd ps) (hs : ∀ n ∈ DataW.weights P t dd, n ≤ reachBytes) :
    ∃ (cs : Array Value) (x : α), v = .agg cs ∧ d.K w x cs.toList ∧ Fit x := by
  obtain ⟨cs, rfl, _⟩ := okWide_struct ht ho
  obtain ⟨fuel, hf⟩ := hd
  obtain ⟨x, hk, hfit⟩ := h H enc w fuel _ _ hf hs
  exact ⟨cs, x, rfl, hk, hfit⟩
/-- The weights of one argument, out of all of them. -/
theorem weights_of {H : Type} {P : Program} {ts : List TypeId} {ds : List (DataW H)} {j : Nat} {t : TypeId} {d : DataW H} (h : (DataW.weightsEach P ts ds).all (· ≤ reachBytes) = true) (ht : ts[j]? = some t) (hd : ds[j]? = some d) :
    ∀ n ∈ DataW.weights P t d, n ≤ reachBytes := fun n hn => by
  have := List.all_eq_true.1 h n (DataW.weights_mem_each ht hd n hn)
  simpa using this
end Go.Proofs.Yteohlbnmmlejnaa.Opening
