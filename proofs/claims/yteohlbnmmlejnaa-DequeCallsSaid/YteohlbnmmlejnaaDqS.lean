/-
  The walk of DequeCalls.
-/
import Derived.Test.YteohlbnmmlejnaaDqR
namespace Go.Proofs.Yteohlbnmmlejnaa
open Go.RowKit Go.Proofs.YteohlbnmmlejnaaW.PrintWords

def kOp : Kd (Int × Int × Int) := Kd.pair (Kd.int .i64) (Kd.pair (Kd.int .i64) (Kd.int .i64))
theorem opensScript : Opening.Opens Try.prog 41 (Kd.slice 50 kOp) (fun xs => xs.length * 24 ≤ 140737488351232 ∧ ∀ x ∈ xs, (Lit.int .i64 x.1).wf = true ∧ (Lit.int .i64 x.2.1).wf = true ∧ (Lit.int .i64 x.2.2).wf = true) :=
  Opening.opens_slice Try.underlying41 (by kernel_rfl) (by kernel_rfl)
    (Opening.opens_struct Try.underlying50 (by kernel_rfl)
      (Opening.opensF_cons rfl (by kernel_rfl) (Opening.opens_int Try.underlying3) (Opening.opensF_cons rfl (by kernel_rfl) (Opening.opens_int Try.underlying3) (Opening.opensF_one rfl (by kernel_rfl) (Opening.opens_int Try.underlying3)))))

theorem op_at {w : World} {A : Option Addr} {n : Nat} {xs : List (Int × Int × Int)} (h : kOp.C w A n xs) (j : Nat) (hj : j < n) :
    ∃ ad x, A = some ad ∧ xs[j]? = some x ∧ w.cell? (ad.add (j * 3)) = some (.int .i64 x.1) ∧ w.cell? ⟨(ad.add (j * 3)).block, (ad.add (j * 3)).off + 1, none⟩ = some (.int .i64 x.2.1) ∧
      w.cell? ⟨(ad.add (j * 3)).block, (ad.add (j * 3)).off + 2, none⟩ = some (.int .i64 x.2.2) := by
  have hl : xs.length = n := h.1
  obtain ⟨ad, hA, hc⟩ := h.2.2 (by omega)
  obtain ⟨c, _, hk, hcell⟩ := hc j xs[j] (List.getElem?_eq_getElem (by omega))
  obtain ⟨c0, c1, hk0, h0, ⟨c2, c3, hk1, h1, h2⟩⟩ := hk
  have hk' : c = [.int .i64 xs[j].1, .int .i64 xs[j].2.1, .int .i64 xs[j].2.2] := by
    have e0 : c0 = [.int .i64 xs[j].1] := h0
    have e1 : c2 = [.int .i64 xs[j].2.1] := h1
    have e2 : c3 = [.int .i64 xs[j].2.2] := h2
    rw [hk0, hk1, e0, e1, e2]; rfl
  have hsz : kOp.sz = 3 := rfl
  have g0 := hcell 0 (.int .i64 xs[j].1) (by rw [hk']; rfl)
  have g1 := hcell 1 (.int .i64 xs[j].2.1) (by rw [hk']; rfl)
  have g2 := hcell 2 (.int .i64 xs[j].2.2) (by rw [hk']; rfl)
  rw [hsz, Nat.add_zero] at g0
  rw [hsz, add_field _ _ 1 (by omega)] at g1
  rw [hsz, add_field _ _ 2 (by omega)] at g2
  exact ⟨ad, xs[j], hA, List.getElem?_eq_getElem (by omega), g0, g1, g2⟩

/-- The two pairs and the two lists of pointers. -/
structure Qd (w : World) (base D E b0 r0 : Nat) (v0 u0 : Value) (xs0 : List Int) (b1 r1 : Nat) (v1 u1 : Value) (xs1 : List Int) : Prop where
  lo : base ≤ D ∧ base ≤ E
  dk : w.heap[D]? = some (.cells #[.pointer (some ⟨b0, 0, none⟩), .pointer (some ⟨b1, 0, none⟩)] 43 (0, 0))
  ek : w.heap[E]? = some (.cells #[.pointer (some ⟨r0, 0, none⟩), .pointer (some ⟨r1, 0, none⟩)] 46 (0, 0))
  t0 : Tw w base b0 r0 v0 u0 xs0
  t1 : Tw w base b1 r1 v1 u1 xs1
  apart : ∀ k, foot b0 r0 v0 u0 k → ¬ foot b1 r1 v1 u1 k

theorem Tw.typed {w : World} {base b r : Nat} {v u : Value} {xs : List Int} (h : Tw w base b r v u xs) : ∀ k, foot b r v u k → ∃ cs T, w.heap[k]? = some (.cells cs T (0, 0)) ∧ (T = 76 ∨ T = 78 ∨ T = 3) := by
  obtain ⟨⟨cb, hb⟩, hv⟩ := h.dq.typed
  obtain ⟨⟨cr, hr⟩, hu⟩ := h.rf.typed
  rintro k (rfl | rfl | e | e)
  · exact ⟨_, _, hb, .inl rfl⟩
  · exact ⟨_, _, hr, .inr (.inl rfl)⟩
  · obtain ⟨cs, hc⟩ := hv k e; exact ⟨_, _, hc, .inr (.inr rfl)⟩
  · obtain ⟨cs, hc⟩ := hu k e; exact ⟨_, _, hc, .inr (.inr rfl)⟩
theorem Tw.far {w : World} {base b r : Nat} {v u : Value} {xs : List Int} (h : Tw w base b r v u xs) {D : Nat} {cs : Array Value} {T : TypeId} (hD : w.heap[D]? = some (.cells cs T (0, 0))) (hT : T ≠ 76 ∧ T ≠ 78 ∧ T ≠ 3) : ¬ foot b r v u D := by
  intro hf
  obtain ⟨cs', T', h', ht⟩ := h.typed D hf
  rw [hD] at h'
  simp at h'
  obtain ⟨_, rfl⟩ := h'
  rcases ht with e | e | e
  · exact hT.1 e
  · exact hT.2.1 e
  · exact hT.2.2 e

/-- 'does' at the first pair -/
theorem Qd.first {w w' : World} {base D E b0 r0 : Nat} {v0 u0 : Value} {xs0 : List Int} {b1 r1 : Nat} {v1 u1 : Value} {xs1 : List Int} (h : Qd w base D E b0 r0 v0 u0 xs0 b1 r1 v1 u1 xs1) {v' u' : Value} {ys : List Int}
    (ht : Tw w' base b0 r0 v' u' ys) (hf : Fr w w' (foot b0 r0 v0 u0)) (hn : ∀ k, foot b0 r0 v' u' k → foot b0 r0 v0 u0 k ∨ w.heap.size ≤ k) : Qd w' base D E b0 r0 v' u' ys b1 r1 v1 u1 xs1 := by
  refine ⟨h.lo, hf.blk h.dk (h.t0.far h.dk (by decide)), hf.blk h.ek (h.t0.far h.ek (by decide)), ht, h.t1.keep hf (fun k hk hk' => h.apart k hk' hk), fun k hk hk' => ?_⟩
  rcases hn k hk with hk | hk
  · exact h.apart k hk hk'
  · have := (h.t1.low k hk').2; omega
theorem Qd.second {w w' : World} {base D E b0 r0 : Nat} {v0 u0 : Value} {xs0 : List Int} {b1 r1 : Nat} {v1 u1 : Value} {xs1 : List Int} (h : Qd w base D E b0 r0 v0 u0 xs0 b1 r1 v1 u1 xs1) {v' u' : Value} {ys : List Int}
    (ht : Tw w' base b1 r1 v' u' ys) (hf : Fr w w' (foot b1 r1 v1 u1)) (hn : ∀ k, foot b1 r1 v' u' k → foot b1 r1 v1 u1 k ∨ w.heap.size ≤ k) : Qd w' base D E b0 r0 v0 u0 xs0 b1 r1 v' u' ys := by
  refine ⟨h.lo, hf.blk h.dk (h.t1.far h.dk (by decide)), hf.blk h.ek (h.t1.far h.ek (by decide)), h.t0.keep hf (fun k hk hk' => h.apart k hk hk'), ht, fun k hk hk' => ?_⟩
  rcases hn k hk' with hk' | hk'
  · exact h.apart k hk hk'
  · have := (h.t0.low k hk).2; omega
/-- a new pair -/
theorem fresh_pair {w w1 w2 : World} {base D E b r i : Nat} {cd ce : Array Value} (dk : w.heap[D]? = some (.cells cd 43 (0, 0))) (ek : w.heap[E]? = some (.cells ce 46 (0, 0))) (hlo : base ≤ w.heap.size)
    (hb : w.heap.size ≤ b) (hd : Dq w1 w.heap.size b (.slice none 0 0) []) (hf : Fr w w1 (fun _ => False))
    (hr : (w1.setCell ⟨D, i, none⟩ (.pointer (some ⟨b, 0, none⟩))).heap.size ≤ r) (hrf : Rf w2 (w1.setCell ⟨D, i, none⟩ (.pointer (some ⟨b, 0, none⟩))).heap.size r (fun _ => True) (.slice none 0 0) []) (hf2 : Fr (w1.setCell ⟨D, i, none⟩ (.pointer (some ⟨b, 0, none⟩))) w2 (fun _ => False)) :
    (w2.setCell ⟨E, i, none⟩ (.pointer (some ⟨r, 0, none⟩))).heap[D]? = some (.cells (cd.setIfInBounds i (.pointer (some ⟨b, 0, none⟩))) 43 (0, 0)) ∧
    (w2.setCell ⟨E, i, none⟩ (.pointer (some ⟨r, 0, none⟩))).heap[E]? = some (.cells (ce.setIfInBounds i (.pointer (some ⟨r, 0, none⟩))) 46 (0, 0)) ∧
    Tw (w2.setCell ⟨E, i, none⟩ (.pointer (some ⟨r, 0, none⟩))) base b r (.slice none 0 0) (.slice none 0 0) [] ∧
    Fr w (w2.setCell ⟨E, i, none⟩ (.pointer (some ⟨r, 0, none⟩))) (fun k => k = D ∨ k = E) ∧ ∀ k, foot b r (.slice none 0 0) (.slice none 0 0) k → w.heap.size ≤ k := by
  have hDE : D ≠ E := blk_types dk ek (by decide)
  have hDl := blk_lt dk
  have hEl := blk_lt ek
  have hs1 := hf.size
  have hsz : (w1.setCell ⟨D, i, none⟩ (.pointer (some ⟨b, 0, none⟩))).heap.size = w1.heap.size := by simp [World.setCell]
  rw [hsz] at hr
  have F1 : Fr w (w1.setCell ⟨D, i, none⟩ (.pointer (some ⟨b, 0, none⟩))) (fun k => k = D ∨ k = E) := (hf.mono (fun _ h => h.elim)).setCell ⟨D, i, none⟩ _ (fun _ => .inl rfl)
  have F2 : Fr w w2 (fun k => k = D ∨ k = E) := F1.trans hf2 (fun _ _ h => h.elim)
  have F3 : Fr w (w2.setCell ⟨E, i, none⟩ (.pointer (some ⟨r, 0, none⟩))) (fun k => k = D ∨ k = E) := F2.setCell ⟨E, i, none⟩ _ (fun _ => .inr rfl)
  have d1 := blk_set (hf.blk dk (fun h => h)) i (.pointer (some ⟨b, 0, none⟩))
  have d2 := hf2.blk d1 (fun h => h)
  have d3 := blk_far (a := ⟨E, i, none⟩) d2 (.pointer (some ⟨r, 0, none⟩)) hDE
  have e1 := blk_far (a := ⟨D, i, none⟩) (hf.blk ek (fun h => h)) (.pointer (some ⟨b, 0, none⟩)) (Ne.symm hDE)
  have e3 := blk_set (hf2.blk e1 (fun h => h)) i (.pointer (some ⟨r, 0, none⟩))
  refine ⟨d3, e3, ⟨?_, ?_⟩, F3, ?_⟩
  · have q1 : Dq w1 base b (.slice none 0 0) [] := by
      obtain ⟨hbb, sm, f, gs, h2⟩ := hd
      exact ⟨by omega, sm, f, gs, ⟨h2.BK, own_weaken h2.own hlo, h2.ne, h2.f0, h2.fl, h2.len, h2.cont, h2.gl⟩⟩
    have q2 := q1.keep ((Fr.refl w1 (fun k => k = D)).setCell ⟨D, i, none⟩ (.pointer (some ⟨b, 0, none⟩)) (fun _ => rfl)) (by omega) (fun k hk => by simp [Value.ownBlock] at hk)
    have q3 := q2.keep hf2 (fun h => h) (fun k hk => by simp [Value.ownBlock] at hk)
    exact q3.keep ((Fr.refl w2 (fun k => k = E)).setCell ⟨E, i, none⟩ (.pointer (some ⟨r, 0, none⟩)) (fun _ => rfl)) (by omega) (fun k hk => by simp [Value.ownBlock] at hk)
  · refine ⟨by omega, blk_far hrf.blk _ (show r ≠ E by omega), Kd.Q_nil _ _ _ _ _⟩
  · rintro k (rfl | rfl | e | e)
    · exact hb
    · omega
    · simp [Value.ownBlock] at e
    · simp [Value.ownBlock] at e

theorem Qd.new0 {w w' : World} {base D E b0 r0 : Nat} {v0 u0 : Value} {xs0 : List Int} {b1 r1 : Nat} {v1 u1 : Value} {xs1 : List Int} (h : Qd w base D E b0 r0 v0 u0 xs0 b1 r1 v1 u1 xs1) {b r : Nat}
    (hd : w'.heap[D]? = some (.cells #[.pointer (some ⟨b, 0, none⟩), .pointer (some ⟨b1, 0, none⟩)] 43 (0, 0))) (he : w'.heap[E]? = some (.cells #[.pointer (some ⟨r, 0, none⟩), .pointer (some ⟨r1, 0, none⟩)] 46 (0, 0)))
    (ht : Tw w' base b r (.slice none 0 0) (.slice none 0 0) []) (hf : Fr w w' (fun k => k = D ∨ k = E)) (hn : ∀ k, foot b r (.slice none 0 0) (.slice none 0 0) k → w.heap.size ≤ k) :
    Qd w' base D E b r (.slice none 0 0) (.slice none 0 0) [] b1 r1 v1 u1 xs1 := by
  refine ⟨h.lo, hd, he, ht, h.t1.keep hf ?_, fun k hk hk' => ?_⟩
  · rintro k hk (e | e)
    · subst e; exact h.t1.far h.dk (by decide) hk
    · subst e; exact h.t1.far h.ek (by decide) hk
  · have := hn k hk; have := (h.t1.low k hk').2; omega
theorem Qd.new1 {w w' : World} {base D E b0 r0 : Nat} {v0 u0 : Value} {xs0 : List Int} {b1 r1 : Nat} {v1 u1 : Value} {xs1 : List Int} (h : Qd w base D E b0 r0 v0 u0 xs0 b1 r1 v1 u1 xs1) {b r : Nat}
    (hd : w'.heap[D]? = some (.cells #[.pointer (some ⟨b0, 0, none⟩), .pointer (some ⟨b, 0, none⟩)] 43 (0, 0))) (he : w'.heap[E]? = some (.cells #[.pointer (some ⟨r0, 0, none⟩), .pointer (some ⟨r, 0, none⟩)] 46 (0, 0)))
    (ht : Tw w' base b r (.slice none 0 0) (.slice none 0 0) []) (hf : Fr w w' (fun k => k = D ∨ k = E)) (hn : ∀ k, foot b r (.slice none 0 0) (.slice none 0 0) k → w.heap.size ≤ k) :
    Qd w' base D E b0 r0 v0 u0 xs0 b r (.slice none 0 0) (.slice none 0 0) [] := by
  refine ⟨h.lo, hd, he, h.t0.keep hf ?_, ht, fun k hk hk' => ?_⟩
  · rintro k hk (e | e)
    · subst e; exact h.t0.far h.dk (by decide) hk
    · subst e; exact h.t0.far h.ek (by decide) hk
  · have := hn k hk'; have := (h.t0.low k hk).2; omega

theorem Dq.widen {w : World} {base base' b : Nat} {v : Value} {xs : List Int} (h : Dq w base b v xs) (hb : base' ≤ base) : Dq w base' b v xs := by
  obtain ⟨hbb, sm, f, gs, h2⟩ := h
  exact ⟨by omega, sm, f, gs, ⟨h2.BK, own_weaken h2.own hb, h2.ne, h2.f0, h2.fl, h2.len, h2.cont, h2.gl⟩⟩
theorem qd_init {w1 w2 w3 w4 w5 : World} {b0 b1 r0 r1 : Nat} (hb0 : w1.heap.size ≤ b0) (hd0 : Dq w2 w1.heap.size b0 (.slice none 0 0) []) (hf0 : Fr w1 w2 (fun _ => False)) (hb1 : w2.heap.size ≤ b1)
    (hd1 : Dq w3 w2.heap.size b1 (.slice none 0 0) []) (hf1 : Fr w2 w3 (fun _ => False)) (hr0 : (w3.alloc (.cells #[.pointer (some ⟨b0, 0, none⟩), .pointer (some ⟨b1, 0, none⟩)] 43)).heap.size ≤ r0)
    (hrf0 : Rf w4 (w3.alloc (.cells #[.pointer (some ⟨b0, 0, none⟩), .pointer (some ⟨b1, 0, none⟩)] 43)).heap.size r0 (fun _ => True) (.slice none 0 0) []) (hf2 : Fr (w3.alloc (.cells #[.pointer (some ⟨b0, 0, none⟩), .pointer (some ⟨b1, 0, none⟩)] 43)) w4 (fun _ => False))
    (hr1 : w4.heap.size ≤ r1) (hrf1 : Rf w5 w4.heap.size r1 (fun _ => True) (.slice none 0 0) []) (hf3 : Fr w4 w5 (fun _ => False)) :
    Qd (w5.alloc (.cells #[.pointer (some ⟨r0, 0, none⟩), .pointer (some ⟨r1, 0, none⟩)] 46)) w1.heap.size w3.heap.size w5.heap.size b0 r0 (.slice none 0 0) (.slice none 0 0) [] b1 r1 (.slice none 0 0) (.slice none 0 0) [] ∧
      Below w1.heap.size w1 (w5.alloc (.cells #[.pointer (some ⟨r0, 0, none⟩), .pointer (some ⟨r1, 0, none⟩)] 46)) := by
  have s0 := hf0.size
  have s1 := hf1.size
  have s2 := hf2.size
  have s3 := hf3.size
  have s4 : (w3.alloc (.cells #[.pointer (some ⟨b0, 0, none⟩), .pointer (some ⟨b1, 0, none⟩)] 43)).heap.size = w3.heap.size + 1 := by simp
  rw [s4] at hr0 s2
  have a3 : Fr w3 (w3.alloc (.cells #[.pointer (some ⟨b0, 0, none⟩), .pointer (some ⟨b1, 0, none⟩)] 43)) (fun _ => False) := (Fr.refl w3 _).alloc _
  have a5 : Fr w5 (w5.alloc (.cells #[.pointer (some ⟨r0, 0, none⟩), .pointer (some ⟨r1, 0, none⟩)] 46)) (fun _ => False) := (Fr.refl w5 _).alloc _
  have n : ∀ k, (Value.slice none 0 0).ownBlock = some k → ¬ False := fun _ _ h => h
  have f35 : Fr w3 (w5.alloc (.cells #[.pointer (some ⟨r0, 0, none⟩), .pointer (some ⟨r1, 0, none⟩)] 46)) (fun _ => False) := ((a3.trans hf2 (fun _ _ h => h)).trans hf3 (fun _ _ h => h)).trans a5 (fun _ _ h => h)
  have f25 := hf1.trans f35 (fun _ _ h => h)
  have f15 := hf0.trans f25 (fun _ _ h => h)
  have l0 := hd0.lt
  have l1 := hd1.lt
  have lr0 := blk_lt hrf0.blk
  refine ⟨⟨⟨by omega, by omega⟩, ?_, heap_alloc_new w5 _, ⟨hd0.keep f25 (fun h => h) n, by omega, ?_, Kd.Q_nil _ _ _ _ _⟩, ⟨(hd1.widen s0).keep f35 (fun h => h) n, by omega, a5.blk hrf1.blk (fun h => h), Kd.Q_nil _ _ _ _ _⟩, ?_⟩, f15.below⟩
  · exact a5.blk (hf3.blk (hf2.blk (heap_alloc_new w3 _) (fun h => h)) (fun h => h)) (fun h => h)
  · exact a5.blk (hf3.blk hrf0.blk (fun h => h)) (fun h => h)
  · rintro k (rfl | rfl | e | e) (e' | e' | e' | e') <;> first | omega | simp [Value.ownBlock] at e | simp [Value.ownBlock] at e'

theorem Qd.drew {w : World} {base D E b0 r0 : Nat} {v0 u0 : Value} {xs0 : List Int} {b1 r1 : Nat} {v1 u1 : Value} {xs1 : List Int} (h : Qd w base D E b0 r0 v0 u0 xs0 b1 r1 v1 u1 xs1) : Qd w.drew base D E b0 r0 v0 u0 xs0 b1 r1 v1 u1 xs1 :=
  ⟨h.lo, h.dk, h.ek, h.t0.keep ((Fr.refl w (fun _ => False)).drew) (fun _ _ h => h), h.t1.keep ((Fr.refl w (fun _ => False)).drew) (fun _ _ h => h), h.apart⟩
theorem Tw.belowOf {w w' : World} {base b r : Nat} {v u : Value} {xs : List Int} (h : Tw w base b r v u xs) (hf : Fr w w' (foot b r v u)) (hb : base ≤ w.heap.size) : Below base w w' := hf.belowOf hb (fun k hk => (h.low k hk).1)

/-- What a round needs to know behind 'does'. -/
structure After (w w1 w3 : World) (A : Option Addr) (ts : List (Int × Int × Int)) (j : Nat) (ad : Addr) (kd on t : Int) : Prop where
  low : Below w1.heap.size w1 w3
  g0 : w3.cell? (ad.add (j * 3)) = some (.int .i64 kd)
  g1 : w3.cell? ⟨(ad.add (j * 3)).block, (ad.add (j * 3)).off + 1, none⟩ = some (.int .i64 on)
  g2 : w3.cell? ⟨(ad.add (j * 3)).block, (ad.add (j * 3)).off + 2, none⟩ = some (.int .i64 t)
theorem after_of {w w1 w3 : World} {A : Option Addr} {ts : List (Int × Int × Int)} {j : Nat} {ad : Addr} {kd on t : Int} (hC : kOp.C w A ts.length ts) (hb : Below w.heap.size w w1) (hl : Below w1.heap.size w1 w3) (hj : j < ts.length) (hA : A = some ad) (hx : ts[j]? = some (kd, on, t)) :
    After w w1 w3 A ts j ad kd on t := by
  obtain ⟨ad', x', hA', hx', g0, g1, g2⟩ := op_at (Kd.C_below hC (hb.trans (hl.mono hb.size))) j hj
  obtain rfl : ad' = ad := Option.some.inj (hA'.symm.trans hA)
  obtain rfl : x' = (kd, on, t) := Option.some.inj (hx'.symm.trans hx)
  exact ⟨hl, g0, g1, g2⟩

theorem and_one (n : Int) : bits .and .i64 n 1 = n % 2 := by
  have h1 : (BitVec.ofInt 64 1).toNat = 2 ^ 1 - 1 := by decide
  have key : (BitVec.ofInt 64 n &&& BitVec.ofInt 64 1).toNat = (n % ((2 ^ 64 : Nat) : Int)).toNat % 2 ^ 1 := by
    rw [BitVec.toNat_and, BitVec.toNat_ofInt, h1, Nat.and_two_pow_sub_one_eq_mod]
  show IntKind.i64.wrap ((BitVec.ofInt 64 n &&& BitVec.ofInt 64 1).toNat : Nat) = n % 2
  rw [key, IntKind.wrap_i64]
  omega
theorem and_cases (n : Int) : bits .and .i64 n 1 = 0 ∨ bits .and .i64 n 1 = 1 := by
  rw [and_one]
  omega

set_option maxRecDepth 100000 in
set_option maxHeartbeats 3200000 in
theorem calls_any (w : World) (A : Option Addr) (c : Nat) (ts : List (Int × Int × Int)) (_hc : ts.length ≤ c) (hC : kOp.C w A ts.length ts) (hf : ts.length * 24 ≤ 140737488351232 ∧ ∀ x ∈ ts, (Lit.int .i64 x.1).wf = true ∧ (Lit.int .i64 x.2.1).wf = true ∧ (Lit.int .i64 x.2.2).wf = true) :
    Calls Try.prog 4 #[.slice A ts.length c] w (okPost w) := by
  have HC := Lib.hid hC
  have HW := Lib.hid hf.2
  have hx : (ts.length : Int) ≤ 17592186043904 := by have := hf.1; omega
  clear hf hC
  go_enter Try.func4, Try.ntmps4
  go_wp2_with fail
  refine (fixed_any w).mono ?_
  rintro e w1 ⟨rfl, hb1⟩
  have HB := Lib.hid hb1
  clear hb1
  go_wp2_with fail
  refine (New_any w1).mono ?_
  rintro e w2 ⟨b0, rfl, hb0, hd0, hf0⟩
  go_wp2_with fail
  refine (New_any w2).mono ?_
  rintro e w3 ⟨b1, rfl, hb1, hd1, hf1⟩
  go_wp2_with fail
  refine (RNew_any _).mono ?_
  rintro e w4 ⟨r0, rfl, hr0, hrf0, hf2⟩
  go_wp2_with fail
  refine (RNew_any _).mono ?_
  rintro e w5 ⟨r1, rfl, hr1, hrf1, hf3⟩
  go_wp2_with fail
  obtain ⟨hq, hl⟩ := qd_init hb0 hd0 hf0 hb1 hd1 hf1 hr0 hrf0 hf2 hr1 hrf1 hf3
  have HQ := Lib.hid hq
  have HL := Lib.hid hl
  clear hq hl hb0 hd0 hf0 hb1 hd1 hf1 hr0 hrf0 hf2 hr1 hrf1 hf3
  generalize (w5.alloc (.cells #[.pointer (some ⟨r0, 0, none⟩), .pointer (some ⟨r1, 0, none⟩)] 46)) = w6 at *
  generalize w3.heap.size = D at *
  generalize w5.heap.size = E at *
  go_loopw [3, 6] (fun o i wr => ∃ (j b0 r0 b1 r1 : Nat) (v0 u0 : Value) (xs0 : List Int) (v1 u1 : Value) (xs1 : List Int), j ≤ ts.length ∧ o = .bool true ∧ i = .int .i64 j ∧ xs0.length ≤ j ∧ xs1.length ≤ j ∧
      Qd wr w1.heap.size D E b0 r0 v0 u0 xs0 b1 r1 v1 u1 xs1 ∧ Below w1.heap.size w1 wr) (fun _ i _ => ts.length - (intOf i).toNat)
  case atStart => exact ⟨0, b0, r0, b1, r1, _, _, [], _, _, [], by omega, rfl, rfl, by simp, by simp, HQ.out, HL.out⟩
  case round =>
    clear HQ HL
    obtain ⟨j, p0, q0, p1, q1, v0, u0, xs0, v1, u1, xs1, hj, rfl, rfl, hx0, hx1, hq, hl⟩ := hrel
    have HQ := Lib.hid hq
    have HL := Lib.hid hl
    clear hq hl
    by_cases hlt : j < ts.length
    · obtain ⟨ad, ⟨kd, on, t⟩, hA, hxj, g0, g1, g2⟩ := op_at (Kd.C_below HC.out (HB.out.trans (HL.out.mono HB.out.size))) j hlt
      subst hA
      have hj2 : (j : Int) < (ts.length : Int) := by omega
      have HX := Lib.hid hxj
      clear hxj
      have d0 : wr.cell? ⟨D, 0, none⟩ = some (.pointer (some ⟨p0, 0, none⟩)) := (blk_cell HQ.out.dk 0).trans rfl
      have d1 : wr.cell? ⟨D, 1, none⟩ = some (.pointer (some ⟨p1, 0, none⟩)) := (blk_cell HQ.out.dk 1).trans rfl
      have e0 : wr.cell? ⟨E, 0, none⟩ = some (.pointer (some ⟨q0, 0, none⟩)) := (blk_cell HQ.out.ek 0).trans rfl
      have e1 : wr.cell? ⟨E, 1, none⟩ = some (.pointer (some ⟨q1, 0, none⟩)) := (blk_cell HQ.out.ek 1).trans rfl
      rcases and_cases on with hbit | hbit
      · by_cases h5 : kd = 5
        · subst h5
          have HQ0 := HQ
          go_wp2_with fail
          refine (New_any wr).mono ?_
          rintro e wn ⟨b, rfl, hb, hd, hf⟩
          have n0 : wn.cell? ⟨D, 0, none⟩ = some (.pointer (some ⟨p0, 0, none⟩)) := (blk_cell (hf.blk HQ.out.dk (fun h => h)) 0).trans rfl
          have z0 := blk_frozen (hf.blk HQ.out.dk (fun h => h)) 0
          have HNb := Lib.hid hb
          have HNd := Lib.hid hd
          have HNf := Lib.hid hf
          clear hb hd hf g0 g1 g2 d0 d1 e0 e1
          go_wp2_with fail
          refine (RNew_any _).mono ?_
          rintro e wm ⟨r, rfl, hr, hrf, hf2⟩
          have hE1 := hf2.blk (blk_far (a := ⟨D, 0, none⟩) (HNf.out.blk HQ.out.ek (fun h => h)) (.pointer (some ⟨b, 0, none⟩)) (Ne.symm (blk_types HQ.out.dk HQ.out.ek (by decide)))) (fun h => h)
          have m0 : wm.cell? ⟨E, 0, none⟩ = some (.pointer (some ⟨q0, 0, none⟩)) := (blk_cell hE1 0).trans rfl
          have y0 := blk_frozen hE1 0
          obtain ⟨fd, fe, ft, ff, fn⟩ := fresh_pair HQ.out.dk HQ.out.ek HL.out.size HNb.out HNd.out HNf.out hr hrf hf2
          have hq9 := HQ.out.new0 (by simpa using fd) (by simpa using fe) ft ff fn
          have hl9 := HL.out.trans (ff.belowOf HL.out.size (fun k hk => by rcases hk with rfl | rfl; exact HQ.out.lo.1; exact HQ.out.lo.2))
          have HQ9 := Lib.hid hq9
          have HL9 := Lib.hid hl9
          clear hr hrf hf2 hE1 fd fe ft ff fn hq9 hl9 HNb HNd HNf HQ HQ0 HL n0 z0
          go_wp2_with fail
          generalize wm.setCell ⟨E, 0, none⟩ (.pointer (some ⟨r, 0, none⟩)) = w9 at *
          clear m0 y0
          have ha9 := after_of HC.out HB.out HL9.out hlt rfl HX.out
          have g0 := ha9.g0
          have g1 := ha9.g1
          have g2 := ha9.g2
          have d0 : w9.cell? ⟨D, 0, none⟩ = some (.pointer (some ⟨b, 0, none⟩)) := (blk_cell HQ9.out.dk 0).trans rfl
          have e0 : w9.cell? ⟨E, 0, none⟩ = some (.pointer (some ⟨r, 0, none⟩)) := (blk_cell HQ9.out.ek 0).trans rfl
          clear ha9
          go_region_held3 (fun w' => w'.cell? ⟨D, 0, none⟩ = some (.pointer (some ⟨b, 0, none⟩)) ∧ w'.cell? ⟨E, 0, none⟩ = some (.pointer (some ⟨r, 0, none⟩)) ∧ w'.cell? (ad.add (j * 3)) = some (.int .i64 5) ∧ w'.cell? ⟨(ad.add (j * 3)).block, (ad.add (j * 3)).off + 1, none⟩ = some (.int .i64 on) ∧ w'.cell? ⟨(ad.add (j * 3)).block, (ad.add (j * 3)).off + 2, none⟩ = some (.int .i64 t))
            (first | go_keep | exact ⟨k0, k1, k2, k3, k4⟩)
            (first | (go_at_call 18; refine (does_any w1.heap.size b r (.slice none 0 0) (.slice none 0 0) [] 5 on t w9.drew HQ9.out.drew.t0 HL9.out.size (by simp)).mono ?_; rintro e w3 ⟨rfl, v', u', ys, ht, hyl, _, _, hf, hn⟩; have hq3 := HQ9.out.drew.first ht hf hn; have HA3 := Lib.hid (after_of HC.out HB.out ((HL9.out.drew).trans (HQ9.out.drew.t0.belowOf hf HL9.out.size)) hlt rfl HX.out); have HQ3 := Lib.hid hq3; have HYL := Lib.hid hyl; clear hq3 ht hf hn hyl; have k0 : w3.cell? ⟨D, 0, none⟩ = some (.pointer (some ⟨b, 0, none⟩)) := (blk_cell HQ3.out.dk 0).trans rfl; have k1 : w3.cell? ⟨E, 0, none⟩ = some (.pointer (some ⟨r, 0, none⟩)) := (blk_cell HQ3.out.ek 0).trans rfl; have k2 := HA3.out.g0; have k3 := HA3.out.g1; have k4 := HA3.out.g2))
          go_wp2_with fail
          go_roundw
          case rel => exact ⟨j + 1, b, r, p1, q1, v', u', ys, v1, u1, xs1, by omega, by simp, by go_num, by have := HYL.out; simp at this; omega, by omega, HQ3.out, HA3.out.low⟩
          case measure => simp [intOf]; omega
        · have h5b : (kd == 5) = false := by simp [h5]
          go_wp2_with fail
          go_region_held3 (fun w' => w'.cell? ⟨D, 0, none⟩ = some (.pointer (some ⟨p0, 0, none⟩)) ∧ w'.cell? ⟨E, 0, none⟩ = some (.pointer (some ⟨q0, 0, none⟩)) ∧ w'.cell? (ad.add (j * 3)) = some (.int .i64 kd) ∧ w'.cell? ⟨(ad.add (j * 3)).block, (ad.add (j * 3)).off + 1, none⟩ = some (.int .i64 on) ∧ w'.cell? ⟨(ad.add (j * 3)).block, (ad.add (j * 3)).off + 2, none⟩ = some (.int .i64 t))
            (first | go_keep | exact ⟨k0, k1, k2, k3, k4⟩)
            (first | (go_at_call 18; refine (does_any w1.heap.size p0 q0 v0 u0 xs0 kd on t wr.drew HQ.out.drew.t0 HL.out.size (by omega)).mono ?_; rintro e w3 ⟨rfl, v', u', ys, ht, hyl, _, _, hf, hn⟩; have hq3 := HQ.out.drew.first ht hf hn; have HA3 := Lib.hid (after_of HC.out HB.out ((HL.out.drew).trans (HQ.out.drew.t0.belowOf hf HL.out.size)) hlt rfl HX.out); have HQ3 := Lib.hid hq3; have HYL := Lib.hid hyl; clear hq3 ht hf hn hyl; have k0 : w3.cell? ⟨D, 0, none⟩ = some (.pointer (some ⟨p0, 0, none⟩)) := (blk_cell HQ3.out.dk 0).trans rfl; have k1 : w3.cell? ⟨E, 0, none⟩ = some (.pointer (some ⟨q0, 0, none⟩)) := (blk_cell HQ3.out.ek 0).trans rfl; have k2 := HA3.out.g0; have k3 := HA3.out.g1; have k4 := HA3.out.g2))
          go_wp2_with fail
          go_roundw
          case rel => exact ⟨j + 1, p0, q0, p1, q1, v', u', ys, v1, u1, xs1, by omega, by simp, by go_num, by have := HYL.out; omega, by omega, HQ3.out, HA3.out.low⟩
          case measure => simp [intOf]; omega
      · by_cases h5 : kd = 5
        · subst h5
          have HQ0 := HQ
          go_wp2_with fail
          refine (New_any wr).mono ?_
          rintro e wn ⟨b, rfl, hb, hd, hf⟩
          have n0 : wn.cell? ⟨D, 1, none⟩ = some (.pointer (some ⟨p1, 0, none⟩)) := (blk_cell (hf.blk HQ.out.dk (fun h => h)) 1).trans rfl
          have z0 := blk_frozen (hf.blk HQ.out.dk (fun h => h)) 1
          have HNb := Lib.hid hb
          have HNd := Lib.hid hd
          have HNf := Lib.hid hf
          clear hb hd hf g0 g1 g2 d0 d1 e0 e1
          go_wp2_with fail
          refine (RNew_any _).mono ?_
          rintro e wm ⟨r, rfl, hr, hrf, hf2⟩
          have hE1 := hf2.blk (blk_far (a := ⟨D, 1, none⟩) (HNf.out.blk HQ.out.ek (fun h => h)) (.pointer (some ⟨b, 0, none⟩)) (Ne.symm (blk_types HQ.out.dk HQ.out.ek (by decide)))) (fun h => h)
          have m0 : wm.cell? ⟨E, 1, none⟩ = some (.pointer (some ⟨q1, 0, none⟩)) := (blk_cell hE1 1).trans rfl
          have y0 := blk_frozen hE1 1
          obtain ⟨fd, fe, ft, ff, fn⟩ := fresh_pair HQ.out.dk HQ.out.ek HL.out.size HNb.out HNd.out HNf.out hr hrf hf2
          have hq9 := HQ.out.new1 (by simpa using fd) (by simpa using fe) ft ff fn
          have hl9 := HL.out.trans (ff.belowOf HL.out.size (fun k hk => by rcases hk with rfl | rfl; exact HQ.out.lo.1; exact HQ.out.lo.2))
          have HQ9 := Lib.hid hq9
          have HL9 := Lib.hid hl9
          clear hr hrf hf2 hE1 fd fe ft ff fn hq9 hl9 HNb HNd HNf HQ HQ0 HL n0 z0
          go_wp2_with fail
          generalize wm.setCell ⟨E, 1, none⟩ (.pointer (some ⟨r, 0, none⟩)) = w9 at *
          clear m0 y0
          have ha9 := after_of HC.out HB.out HL9.out hlt rfl HX.out
          have g0 := ha9.g0
          have g1 := ha9.g1
          have g2 := ha9.g2
          have d0 : w9.cell? ⟨D, 1, none⟩ = some (.pointer (some ⟨b, 0, none⟩)) := (blk_cell HQ9.out.dk 1).trans rfl
          have e0 : w9.cell? ⟨E, 1, none⟩ = some (.pointer (some ⟨r, 0, none⟩)) := (blk_cell HQ9.out.ek 1).trans rfl
          clear ha9
          go_region_held3 (fun w' => w'.cell? ⟨D, 1, none⟩ = some (.pointer (some ⟨b, 0, none⟩)) ∧ w'.cell? ⟨E, 1, none⟩ = some (.pointer (some ⟨r, 0, none⟩)) ∧ w'.cell? (ad.add (j * 3)) = some (.int .i64 5) ∧ w'.cell? ⟨(ad.add (j * 3)).block, (ad.add (j * 3)).off + 1, none⟩ = some (.int .i64 on) ∧ w'.cell? ⟨(ad.add (j * 3)).block, (ad.add (j * 3)).off + 2, none⟩ = some (.int .i64 t))
            (first | go_keep | exact ⟨k0, k1, k2, k3, k4⟩)
            (first | (go_at_call 18; refine (does_any w1.heap.size b r (.slice none 0 0) (.slice none 0 0) [] 5 on t w9.drew HQ9.out.drew.t1 HL9.out.size (by simp)).mono ?_; rintro e w3 ⟨rfl, v', u', ys, ht, hyl, _, _, hf, hn⟩; have hq3 := HQ9.out.drew.second ht hf hn; have HA3 := Lib.hid (after_of HC.out HB.out ((HL9.out.drew).trans (HQ9.out.drew.t1.belowOf hf HL9.out.size)) hlt rfl HX.out); have HQ3 := Lib.hid hq3; have HYL := Lib.hid hyl; clear hq3 ht hf hn hyl; have k0 : w3.cell? ⟨D, 1, none⟩ = some (.pointer (some ⟨b, 0, none⟩)) := (blk_cell HQ3.out.dk 1).trans rfl; have k1 : w3.cell? ⟨E, 1, none⟩ = some (.pointer (some ⟨r, 0, none⟩)) := (blk_cell HQ3.out.ek 1).trans rfl; have k2 := HA3.out.g0; have k3 := HA3.out.g1; have k4 := HA3.out.g2))
          go_wp2_with fail
          go_roundw
          case rel => exact ⟨j + 1, p0, q0, b, r, v0, u0, xs0, v', u', ys, by omega, by simp, by go_num, by omega, by have := HYL.out; simp at this; omega, HQ3.out, HA3.out.low⟩
          case measure => simp [intOf]; omega
        · have h5b : (kd == 5) = false := by simp [h5]
          go_wp2_with fail
          go_region_held3 (fun w' => w'.cell? ⟨D, 1, none⟩ = some (.pointer (some ⟨p1, 0, none⟩)) ∧ w'.cell? ⟨E, 1, none⟩ = some (.pointer (some ⟨q1, 0, none⟩)) ∧ w'.cell? (ad.add (j * 3)) = some (.int .i64 kd) ∧ w'.cell? ⟨(ad.add (j * 3)).block, (ad.add (j * 3)).off + 1, none⟩ = some (.int .i64 on) ∧ w'.cell? ⟨(ad.add (j * 3)).block, (ad.add (j * 3)).off + 2, none⟩ = some (.int .i64 t))
            (first | go_keep | exact ⟨k0, k1, k2, k3, k4⟩)
            (first | (go_at_call 18; refine (does_any w1.heap.size p1 q1 v1 u1 xs1 kd on t wr.drew HQ.out.drew.t1 HL.out.size (by omega)).mono ?_; rintro e w3 ⟨rfl, v', u', ys, ht, hyl, _, _, hf, hn⟩; have hq3 := HQ.out.drew.second ht hf hn; have HA3 := Lib.hid (after_of HC.out HB.out ((HL.out.drew).trans (HQ.out.drew.t1.belowOf hf HL.out.size)) hlt rfl HX.out); have HQ3 := Lib.hid hq3; have HYL := Lib.hid hyl; clear hq3 ht hf hn hyl; have k0 : w3.cell? ⟨D, 1, none⟩ = some (.pointer (some ⟨p1, 0, none⟩)) := (blk_cell HQ3.out.dk 1).trans rfl; have k1 : w3.cell? ⟨E, 1, none⟩ = some (.pointer (some ⟨q1, 0, none⟩)) := (blk_cell HQ3.out.ek 1).trans rfl; have k2 := HA3.out.g0; have k3 := HA3.out.g1; have k4 := HA3.out.g2))
          go_wp2_with fail
          go_roundw
          case rel => exact ⟨j + 1, p0, q0, p1, q1, v0, u0, xs0, v', u', ys, by omega, by simp, by go_num, by omega, by have := HYL.out; omega, HQ3.out, HA3.out.low⟩
          case measure => simp [intOf]; omega
    · obtain rfl : j = ts.length := by omega
      go_wp2_with fail
      obtain ⟨wo0, rfl⟩ : ∃ wo : World, wo = wr := ⟨_, rfl⟩
      go_loopg [3] xs0.length (fun g o wr => ∃ (v u : Value) (xs : List Int), g = xs.length ∧ o = .bool true ∧ xs.length ≤ ts.length ∧ Qd wr w1.heap.size D E p0 q0 v u xs p1 q1 v1 u1 xs1 ∧ Below w1.heap.size w1 wr)
      case atStart => exact ⟨v0, u0, xs0, rfl, rfl, by omega, HQ.out, HL.out⟩
      case round =>
        clear HQ HL
        obtain ⟨v, u, xs, hg, rfl, hxl, hq, hl⟩ := hrel
        have HQ := Lib.hid hq
        have HL := Lib.hid hl
        have HG := Lib.hid hg
        clear hq hl hg
        have d0 : wr.cell? ⟨D, 0, none⟩ = some (.pointer (some ⟨p0, 0, none⟩)) := (blk_cell HQ.out.dk 0).trans rfl
        have e0 : wr.cell? ⟨E, 0, none⟩ = some (.pointer (some ⟨q0, 0, none⟩)) := (blk_cell HQ.out.ek 0).trans rfl
        by_cases he : xs = []
        · subst he
          go_wp2_with fail
          refine (RLen_any w1.heap.size q0 _ u [] _ HQ.out.t0.rf).mono ?_
          rintro e w3 ⟨rfl, rfl⟩
          rw [show (([] : List Int).length : Int) = 0 from rfl]
          go_wp2_with fail
          obtain ⟨va, rfl⟩ : ∃ va, va = v := ⟨v, rfl⟩
          obtain ⟨ua, rfl⟩ : ∃ ua, ua = u := ⟨u, rfl⟩
          clear d0 e0
          obtain ⟨wo1, rfl⟩ : ∃ wo : World, wo = wr := ⟨_, rfl⟩
          go_loopg [3] xs1.length (fun g o wr => ∃ (v u : Value) (xs : List Int), g = xs.length ∧ o = .bool true ∧ xs.length ≤ ts.length ∧ Qd wr w1.heap.size D E p0 q0 va ua [] p1 q1 v u xs ∧ Below w1.heap.size w1 wr)
          case atStart => exact ⟨v1, u1, xs1, rfl, rfl, by omega, HQ.out, HL.out⟩
          case round =>
            clear HQ HL
            obtain ⟨v, u, xs, hg, rfl, hxl, hq, hl⟩ := hrel
            have HQ := Lib.hid hq
            have HL := Lib.hid hl
            have HG := Lib.hid hg
            clear hq hl hg
            have d0 : wr.cell? ⟨D, 1, none⟩ = some (.pointer (some ⟨p1, 0, none⟩)) := (blk_cell HQ.out.dk 1).trans rfl
            have d00 : wr.cell? ⟨D, 0, none⟩ = some (.pointer (some ⟨p0, 0, none⟩)) := (blk_cell HQ.out.dk 0).trans rfl
            have e0 : wr.cell? ⟨E, 1, none⟩ = some (.pointer (some ⟨q1, 0, none⟩)) := (blk_cell HQ.out.ek 1).trans rfl
            by_cases he : xs = []
            · subst he
              go_wp2_with fail
              refine (RLen_any w1.heap.size q1 _ u [] _ HQ.out.t1.rf).mono ?_
              rintro e w3 ⟨rfl, rfl⟩
              rw [show (([] : List Int).length : Int) = 0 from rfl]
              go_wp2_with fail
              refine (Len_any w1.heap.size p0 va [] _ HQ.out.t0.dq).mono ?_
              rintro e w3 ⟨rfl, hd, hf⟩
              have hq3 := HQ.out.first (Tw.mk hd (HQ.out.t0.deq (v' := va) (hf.mono (fun _ h => .inl h)) (.inl rfl))) (hf.mono (fun _ h => .inl h)) (fun k hk => .inl hk)
              have HL3 := Lib.hid (HL.out.trans (HQ.out.t0.belowOf (hf.mono (fun _ h => .inl h)) HL.out.size))
              have HQ3 := Lib.hid hq3
              have d1' : w3.cell? ⟨D, 1, none⟩ = some (.pointer (some ⟨p1, 0, none⟩)) := (blk_cell HQ3.out.dk 1).trans rfl
              clear hq3 hd hf HQ HL
              rw [show (([] : List Int).length : Int) = 0 from rfl]
              go_wp2_with fail
              refine (Len_any w1.heap.size p1 v [] _ HQ3.out.t1.dq).mono ?_
              rintro e w4 ⟨rfl, hd, hf⟩
              have HL4 := Lib.hid (HL3.out.trans (HQ3.out.t1.belowOf (hf.mono (fun _ h => .inl h)) HL3.out.size))
              clear hd hf HQ3 HL3
              rw [show (([] : List Int).length : Int) = 0 from rfl]
              go_wp2_with fail
              go_ret
              exact ⟨rfl, HB.out.trans (HL4.out.mono HB.out.size)⟩
            · have hp := List.length_pos_iff.2 he
              have hp1 : (0 : Int) < (xs.length : Int) := by omega
              go_wp2_with fail
              refine (RLen_any w1.heap.size q1 _ u xs _ HQ.out.t1.rf).mono ?_
              rintro e w3 ⟨rfl, rfl⟩
              go_wp2_with fail
              go_region_held3 (fun w' => w'.cell? ⟨D, 1, none⟩ = some (.pointer (some ⟨p1, 0, none⟩)) ∧ w'.cell? ⟨E, 1, none⟩ = some (.pointer (some ⟨q1, 0, none⟩)))
                (first | go_keep | exact ⟨k0, k1⟩)
                (first | (go_at_call 18; refine (does_any w1.heap.size p1 q1 v u xs 3 0 0 wr.drew HQ.out.drew.t1 HL.out.size (by omega)).mono ?_; rintro e w3 ⟨rfl, v', u', ys, ht, _, hy2, hy3, hf, hn⟩; have hq3 := HQ.out.drew.second ht hf hn; have HL3 := Lib.hid ((HL.out.drew).trans (HQ.out.drew.t1.belowOf hf HL.out.size)); have HQ3 := Lib.hid hq3; have HY2 := Lib.hid hy2; have HY3 := Lib.hid hy3; clear hq3 ht hf hn hy2 hy3; have k0 : w3.cell? ⟨D, 1, none⟩ = some (.pointer (some ⟨p1, 0, none⟩)) := (blk_cell HQ3.out.dk 1).trans rfl; have k1 : w3.cell? ⟨E, 1, none⟩ = some (.pointer (some ⟨q1, 0, none⟩)) := (blk_cell HQ3.out.ek 1).trans rfl))
              go_wp2_with fail
              have hyl : ys.length = xs.length - 1 := by rw [HY3.out (by trivial)]; simp [takeRest]
              obtain ⟨g2, rfl⟩ : ∃ m, gk = m + 1 := ⟨gk - 1, by have := HG.out; omega⟩
              go_roundg g2
              case measure => omega
              case rel => exact ⟨v', u', ys, by have := HG.out; omega, by simp, by omega, HQ3.out, HL3.out⟩
        · have hp := List.length_pos_iff.2 he
          have hp1 : (0 : Int) < (xs.length : Int) := by omega
          go_wp2_with fail
          refine (RLen_any w1.heap.size q0 _ u xs _ HQ.out.t0.rf).mono ?_
          rintro e w3 ⟨rfl, rfl⟩
          go_wp2_with fail
          go_region_held3 (fun w' => w'.cell? ⟨D, 0, none⟩ = some (.pointer (some ⟨p0, 0, none⟩)) ∧ w'.cell? ⟨E, 0, none⟩ = some (.pointer (some ⟨q0, 0, none⟩)))
            (first | go_keep | exact ⟨k0, k1⟩)
            (first | (go_at_call 18; refine (does_any w1.heap.size p0 q0 v u xs 2 0 0 wr.drew HQ.out.drew.t0 HL.out.size (by omega)).mono ?_; rintro e w3 ⟨rfl, v', u', ys, ht, _, hy2, hy3, hf, hn⟩; have hq3 := HQ.out.drew.first ht hf hn; have HL3 := Lib.hid ((HL.out.drew).trans (HQ.out.drew.t0.belowOf hf HL.out.size)); have HQ3 := Lib.hid hq3; have HY2 := Lib.hid hy2; have HY3 := Lib.hid hy3; clear hq3 ht hf hn hy2 hy3; have k0 : w3.cell? ⟨D, 0, none⟩ = some (.pointer (some ⟨p0, 0, none⟩)) := (blk_cell HQ3.out.dk 0).trans rfl; have k1 : w3.cell? ⟨E, 0, none⟩ = some (.pointer (some ⟨q0, 0, none⟩)) := (blk_cell HQ3.out.ek 0).trans rfl))
          go_wp2_with fail
          have hyl : ys.length = xs.length - 1 := by rw [HY2.out (by trivial)]; simp [takeRest]
          obtain ⟨g2, rfl⟩ : ∃ m, gk = m + 1 := ⟨gk - 1, by have := HG.out; omega⟩
          go_roundg g2
          case measure => omega
          case rel => exact ⟨v', u', ys, by have := HG.out; omega, by simp, by omega, HQ3.out, HL3.out⟩
end Go.Proofs.Yteohlbnmmlejnaa
