/-
 Part AA of what the law's proof needs: walks of the program's functions and the plain laws of what they tell. No condition.
-/
import Derived.Test.YtcbcacbbnojdjaaGreatDoorMgZ
namespace Go.Proofs.YtcbcacbbnojdjaaGreatDoor
open Go.RowKit Go.Maps Go.Proofs.YtcbcacbbnojdjaaGreatDoorW.PrintWords Go.Proofs.YtcbcacbbnojdjaaGreatDoorW.PrintLast Go.Proofs.YtcbcacbbnojdjaaGreatDoorW.PrintMore Go.Proofs.YtcbcacbbnojdjaaGreatDoor.PSolveFunctions
set_option linter.unusedVariables false
set_option linter.unusedSimpArgs false
def IntsV (W : Nat → Prop) (w0 : World) (v : Value) : Prop := ∃ A n c, v = .slice A n c ∧ n ≤ c ∧ n ≤ 2147483646 ∧ (0 < n → ∃ g, A = some ⟨g, 0, none⟩ ∧ W g ∧ ∀ j, j < n → ∃ i, w0.cell? ⟨g, j, none⟩ = some (.int .i64 i))
def Like1 (v v' : Value) : Prop := (∃ i j, v = .int .i64 i ∧ v' = .int .i64 j) ∨ v' = v
def Like2 (W : Nat → Prop) (w0 : World) (v v' : Value) : Prop := (∃ i j, v = .int .i64 i ∧ v' = .int .i64 j) ∨ (IntsV W w0 v ∧ IntsV W w0 v') ∨ v' = v
def Wrote (W : Nat → Prop) (L : Value → Value → Prop) (w0 w : World) : Prop :=
 ∀ k, W k → ∃ (cs cs' : Array Value) (e : TypeId), w0.heap[k]? = some (.cells cs e (0, 0)) ∧ w.heap[k]? = some (.cells cs' e (0, 0)) ∧ cs'.size = cs.size ∧ ∀ (j : Nat) (v : Value), cs[j]? = some v → ∃ v', cs'[j]? = some v' ∧ L v v'
structure Sim (W : Nat → Prop) (L : Value → Value → Prop) (lo : Nat) (w0 w : World) : Prop where
 bel : Below lo w0 w
 big : w0.heap.size ≤ w.heap.size
 low : ∀ k, W k → lo ≤ k
 off : ∀ k, k < w0.heap.size → ¬ W k → w.heap[k]? = w0.heap[k]?
 wr : Wrote W L w0 w
section
variable {W : Nat → Prop} {L : Value → Value → Prop} {lo : Nat} {w0 w w' : World}
theorem Sim.start (hL : ∀ v, L v v) (hlo : ∀ k, W k → lo ≤ k) (hW : ∀ k, W k → ∃ cs e, w0.heap[k]? = some (.cells cs e (0, 0))) : Sim W L lo w0 w0 :=
 ⟨Below.refl _ _, Nat.le_refl _, hlo, fun _ _ _ => rfl, fun k hk => by
  obtain ⟨cs, e, h⟩ := hW k hk
  exact ⟨cs, cs, e, h, h, rfl, fun j v hv => ⟨v, hv, hL v⟩⟩⟩
theorem Sim.lt (h : Sim W L lo w0 w) {k : Nat} (hk : W k) : k < w0.heap.size := by
 obtain ⟨cs, cs', e, h1, _⟩ := h.wr k hk
 exact blk_lt h1
theorem Sim.below (h : Sim W L lo w0 w) (hl : lo ≤ w0.heap.size) (hb : Below w.heap.size w w') : Sim W L lo w0 w' :=
 ⟨h.bel.trans (hb.mono (Nat.le_trans hl h.big)), Nat.le_trans h.big hb.size, h.low, fun k hk hn => (hb.block k (Nat.lt_of_lt_of_le hk h.big)).trans (h.off k hk hn), fun k hk => by
  obtain ⟨cs, cs', e, h1, h2, h3⟩ := h.wr k hk
  exact ⟨cs, cs', e, h1, (hb.block k (blk_lt h2)).trans h2, h3⟩⟩
theorem Sim.frozen (h : Sim W L lo w0 w) {g : Nat} (hg : W g) (j : Nat) : w.frozen? ⟨g, j, none⟩ = false := by
 obtain ⟨cs, cs', e, h1, h2, h3⟩ := h.wr g hg
 exact blk_frozen h2 j
theorem Sim.cell (h : Sim W L lo w0 w) {g j : Nat} {v : Value} (hg : W g) (hc : w0.cell? ⟨g, j, none⟩ = some v) : ∃ v', w.cell? ⟨g, j, none⟩ = some v' ∧ L v v' := by
 obtain ⟨cs, cs', e, h1, h2, h3, h4⟩ := h.wr g hg
 rw [blk_cell h1] at hc
 obtain ⟨v', h5, h6⟩ := h4 j v hc
 exact ⟨v', (blk_cell h2 j).trans h5, h6⟩
theorem Sim.far (h : Sim W L lo w0 w) {a : Addr} {v : Value} (hg : ¬ W a.block) (hc : w0.cell? a = some v) : w.cell? a = some v :=
 (World.cell?_of_block (h.off a.block (World.block_lt_of_cell? w0 a hc) hg)).trans hc
theorem Sim.set (h : Sim W L lo w0 w) {g j : Nat} {v v' : Value} (hg : W g) (hc : w0.cell? ⟨g, j, none⟩ = some v) (hl : L v v') : Sim W L lo w0 (w.setCell ⟨g, j, none⟩ v') := by
 refine ⟨h.bel.setCell (p := ⟨g, j, none⟩) (h.low g hg) _, by simpa using h.big, h.low, fun k hk hn => (Below.heap_setCell w ⟨g, j, none⟩ v' k (fun e => hn (e ▸ hg))).trans (h.off k hk hn), fun k hk => ?_⟩
 obtain ⟨cs, cs', e, h1, h2, h3, h4⟩ := h.wr k hk
 by_cases hkg : k = g
 ·subst hkg
  rw [blk_cell h1] at hc
  refine ⟨cs, cs'.setIfInBounds j v', e, h1, blk_set h2 j v', by simpa using h3, fun i u hu => ?_⟩
  by_cases hij : i = j
  ·subst hij
   have hi : i < cs.size := (Array.getElem?_eq_some_iff.1 hu).1
   rw [hc] at hu
   injection hu with hu
   subst hu
   exact ⟨v', by rw [Array.getElem?_setIfInBounds_self_of_lt (by omega)], hl⟩
  ·obtain ⟨u', h5, h6⟩ := h4 i u hu
   exact ⟨u', by rw [Array.getElem?_setIfInBounds_ne (Ne.symm hij)]; exact h5, h6⟩
 ·exact ⟨cs, cs', e, h1, (Below.heap_setCell w ⟨g, j, none⟩ v' k hkg).trans h2, h3, h4⟩
end
theorem like_int {W : Nat → Prop} {w0 : World} {i : Int} {v : Value} (h : Like2 W w0 (.int .i64 i) v) : ∃ j, v = .int .i64 j := by
 rcases h with ⟨_, j, _, h⟩ | ⟨⟨A, n, c, h, _⟩, _⟩ | h
 ·exact ⟨j, h⟩
 ·cases h
 ·exact ⟨i, h⟩
theorem like_ints {W : Nat → Prop} {w0 : World} {u v : Value} (h : Like2 W w0 u v) (hu : IntsV W w0 u) : IntsV W w0 v := by
 rcases h with ⟨i, j, h, _⟩ | ⟨_, h⟩ | h
 ·obtain ⟨A, n, c, h2, _⟩ := hu
  rw [h2] at h
  cases h
 ·exact h
 ·exact h ▸ hu
theorem like1_int {i : Int} {v : Value} (h : Like1 (.int .i64 i) v) : ∃ j, v = .int .i64 j := by
 rcases h with ⟨_, j, _, h⟩ | h
 ·exact ⟨j, h⟩
 ·exact ⟨i, h⟩
theorem like1_slice {A : Option Addr} {n c : Nat} {v : Value} (h : Like1 (.slice A n c) v) : v = .slice A n c := by
 rcases h with ⟨_, _, h, _⟩ | h
 ·cases h
 ·exact h
structure InsV (W : Nat → Prop) (w0 : World) (g o : Nat) : Prop where
 ints : ∀ i, i < 5 → ∃ x, w0.cell? ⟨g, o + i, none⟩ = some (.int .i64 x)
 args : ∃ v, w0.cell? ⟨g, o + 5, none⟩ = some v ∧ IntsV W w0 v
 rets : ∃ v, w0.cell? ⟨g, o + 6, none⟩ = some v ∧ IntsV W w0 v
def CodeV (W : Nat → Prop) (w0 : World) (v : Value) : Prop := ∃ A n c, v = .slice A n c ∧ n ≤ c ∧ n ≤ 2147483646 ∧ (0 < n → ∃ g, A = some ⟨g, 0, none⟩ ∧ W g ∧ ∀ k, k < n → InsV W w0 g (k * 7))
structure FunV (W : Nat → Prop) (w0 : World) (b j : Nat) : Prop where
 ints : ∀ i, i < 3 → ∃ x, w0.cell? ⟨b, j * 4 + i, none⟩ = some (.int .i64 x)
 code : ∃ v, w0.cell? ⟨b, j * 4 + 3, none⟩ = some v ∧ CodeV W w0 v
theorem ints_read {W : Nat → Prop} {L : Value → Value → Prop} {w0 w : World} (hi : ∀ (x : Int) v, L (.int .i64 x) v → ∃ y, v = .int .i64 y) (h : Wrote W L w0 w) {v : Value} (hv : IntsV W w0 v) : ∃ A xs c, v = .slice A xs.length c ∧ xs.length ≤ c ∧ xs.length ≤ 2147483646 ∧ (Kd.int .i64).C w A xs.length xs := by
 obtain ⟨A, n, c, rfl, h1, h2, h3⟩ := hv
 by_cases hn : 0 < n
 ·obtain ⟨g, rfl, hg, hc⟩ := h3 hn
  obtain ⟨cs, cs', e, k1, k2, k3, k4⟩ := h g hg
  have hx : ∀ j, j < n → ∃ y, w.cell? ⟨g, j, none⟩ = some (.int .i64 y) := fun j hj => by
   obtain ⟨i, hi2⟩ := hc j hj
   rw [blk_cell k1] at hi2
   obtain ⟨v', h5, h6⟩ := k4 j _ hi2
   obtain ⟨y, rfl⟩ := hi _ _ h6
   exact ⟨y, (blk_cell k2 j).trans h5⟩
  let f : Nat → Int := fun j => if hj : j < n then (hx j hj).choose else 0
  have hf : ∀ j, j < n → w.cell? ⟨g, j, none⟩ = some (.int .i64 (f j)) := fun j hj => by
   have := (hx j hj).choose_spec
   simp only [f, hj, dif_pos]
   exact this
  refine ⟨some ⟨g, 0, none⟩, (List.range n).map f, c, by simp, by simpa using h1, by simpa using h2, rfl, by simp; omega, fun _ => ⟨_, rfl, fun j p hj => ?_⟩⟩
  have hjn : j < n := by have := (List.getElem?_eq_some_iff.1 hj).1; simpa using this
  rw [List.getElem?_map, List.getElem?_range hjn] at hj
  injection hj with hj
  subst hj
  refine ⟨[.int .i64 (f j)], rfl, rfl, fun i u hu => ?_⟩
  obtain rfl : i = 0 := by have := (List.getElem?_eq_some_iff.1 hu).1; simp at this; exact this
  injection hu with hu
  subst hu
  rw [show (⟨g, 0, none⟩ : Addr).add (j * (Kd.int .i64).sz + 0) = ⟨g, j, none⟩ by rw [add_at]; show (⟨g, 0 + (j * 1 + 0), none⟩ : Addr) = _; congr 1; omega]
  exact hf j hjn
 ·obtain rfl : n = 0 := by omega
  exact ⟨A, [], c, rfl, h1, h2, rfl, by simp, fun hn => absurd hn (by simp)⟩
theorem row_of {α : Type} (d : Kd α) (P : α → Prop) (w : World) (g : Nat) : ∀ n : Nat, n ≤ 9223372036854775807 → (∀ k, k < n → ∃ x cs, cs.length = d.sz ∧ d.K w x cs ∧ P x ∧ ∀ (i : Nat) (u : Value), cs[i]? = some u → w.cell? ⟨g, k * d.sz + i, none⟩ = some u) →
  ∃ xs : List α, xs.length = n ∧ d.C w (some ⟨g, 0, none⟩) n xs ∧ ∀ x ∈ xs, P x := by
 intro n hn h
 have h2 : ∀ m, m ≤ n → ∃ xs : List α, xs.length = m ∧ (∀ (j : Nat) (p : α), xs[j]? = some p → ∃ c, c.length = d.sz ∧ d.K w p c ∧ ∀ (i : Nat) (u : Value), c[i]? = some u → w.cell? ((⟨g, 0, none⟩ : Addr).add (j * d.sz + i)) = some u) ∧ ∀ x ∈ xs, P x := by
  intro m
  induction m with
  | zero => exact fun _ => ⟨[], rfl, fun j p hj => by simp at hj, fun x hx => by simp at hx⟩
  | succ m ih =>
   intro hm
   obtain ⟨xs, h3, h4, h5⟩ := ih (by omega)
   obtain ⟨x, cs, k1, k2, k3, k4⟩ := h m (by omega)
   refine ⟨xs ++ [x], by simp [h3], fun j p hj => ?_, fun y hy => ?_⟩
   ·by_cases hjm : j < m
    ·rw [List.getElem?_append_left (by omega)] at hj
     exact h4 j p hj
    ·have hjl := (List.getElem?_eq_some_iff.1 hj).1
     obtain rfl : j = m := by rw [List.length_append, List.length_singleton] at hjl; omega
     rw [List.getElem?_append_right (by omega), h3, Nat.sub_self] at hj
     injection hj with hj
     subst hj
     exact ⟨cs, k1, k2, fun i u hu => by rw [add_at, Nat.zero_add]; exact k4 i u hu⟩
   ·rcases List.mem_append.1 hy with hy | hy
    ·exact h5 y hy
    ·rw [List.mem_singleton.1 hy]
     exact k3
 obtain ⟨xs, h3, h4, h5⟩ := h2 n (Nat.le_refl _)
 exact ⟨xs, h3, ⟨h3, hn, fun _ => ⟨_, rfl, h4⟩⟩, h5⟩
def InsB (x : Ins) : Prop := x.f5.length ≤ 2147483646 ∧ x.f6.length ≤ 2147483646
def FunB (f : Fun) : Prop := f.f3.length ≤ 2147483646 ∧ ∀ x ∈ f.f3, InsB x
def SumB (s : Smm) : Prop := s.f0.length ≤ 2147483646 ∧ s.f1.length ≤ 2147483646 ∧ ∀ r ∈ s.f1, r.length ≤ 2147483646
section
variable {W : Nat → Prop} {lo : Nat} {w0 w : World}
theorem wrote_cell {L : Value → Value → Prop} (h : Wrote W L w0 w) {g j : Nat} {v : Value} (hg : W g) (hc : w0.cell? ⟨g, j, none⟩ = some v) : ∃ v', w.cell? ⟨g, j, none⟩ = some v' ∧ L v v' := by
 obtain ⟨cs, cs', e, h1, h2, h3, h4⟩ := h g hg
 rw [blk_cell h1] at hc
 obtain ⟨v', h5, h6⟩ := h4 j v hc
 exact ⟨v', (blk_cell h2 j).trans h5, h6⟩
theorem like2_int : ∀ (x : Int) v, Like2 W w0 (.int .i64 x) v → ∃ y, v = .int .i64 y := fun _ _ h => like_int h
theorem ins_read (h : Wrote W (Like2 W w0) w0 w) {g o : Nat} (hg : W g) (hi : InsV W w0 g o) : ∃ x cs, cs.length = 7 ∧ k79.K w x cs ∧ InsB x ∧ ∀ (i : Nat) (u : Value), cs[i]? = some u → w.cell? ⟨g, o + i, none⟩ = some u := by
 have hint : ∀ i, i < 5 → ∃ x, w.cell? ⟨g, o + i, none⟩ = some (.int .i64 x) := fun i hi5 => by
  obtain ⟨x, hx⟩ := hi.ints i hi5
  obtain ⟨v', h1, h2⟩ := wrote_cell h hg hx
  obtain ⟨y, rfl⟩ := like_int h2
  exact ⟨y, h1⟩
 obtain ⟨x0, e0⟩ := hint 0 (by omega)
 obtain ⟨x1, e1⟩ := hint 1 (by omega)
 obtain ⟨x2, e2⟩ := hint 2 (by omega)
 obtain ⟨x3, e3⟩ := hint 3 (by omega)
 obtain ⟨x4, e4⟩ := hint 4 (by omega)
 obtain ⟨v5, h5, g5⟩ := hi.args
 obtain ⟨v6, h6, g6⟩ := hi.rets
 obtain ⟨u5, e5, l5⟩ := wrote_cell h hg h5
 obtain ⟨u6, e6, l6⟩ := wrote_cell h hg h6
 obtain ⟨A5, xs5, c5, rfl, a1, a2, a3⟩ := ints_read like2_int h (like_ints l5 g5)
 obtain ⟨A6, xs6, c6, rfl, b1, b2, b3⟩ := ints_read like2_int h (like_ints l6 g6)
 refine ⟨⟨x0, x1, x2, x3, x4, xs5, xs6⟩, _, rfl, k79_mk w ⟨x0, x1, x2, x3, x4, xs5, xs6⟩ a1 a3 b1 b3, ⟨a2, b2⟩, fun i u hu => ?_⟩
 have hi7 := (List.getElem?_eq_some_iff.1 hu).1
 simp only [List.length_cons, List.length_nil] at hi7
 match i, hi7 with
 | 0, _ => injection hu with hu; subst hu; exact e0
 | 1, _ => injection hu with hu; subst hu; exact e1
 | 2, _ => injection hu with hu; subst hu; exact e2
 | 3, _ => injection hu with hu; subst hu; exact e3
 | 4, _ => injection hu with hu; subst hu; exact e4
 | 5, _ => injection hu with hu; subst hu; exact e5
 | 6, _ => injection hu with hu; subst hu; exact e6
theorem code_read (h : Wrote W (Like2 W w0) w0 w) {v : Value} (hv : CodeV W w0 v) : ∃ A xs c, v = .slice A xs.length c ∧ xs.length ≤ c ∧ xs.length ≤ 2147483646 ∧ k79.C w A xs.length xs ∧ ∀ x ∈ xs, InsB x := by
 obtain ⟨A, n, c, rfl, h1, h2, h3⟩ := hv
 by_cases hn : 0 < n
 ·obtain ⟨g, rfl, hg, hc⟩ := h3 hn
  obtain ⟨xs, rfl, k2, k3⟩ := row_of k79 InsB w g n (by omega) (fun k hk => ins_read h hg (hc k hk))
  exact ⟨_, xs, c, rfl, h1, h2, k2, k3⟩
 ·obtain rfl : n = 0 := by omega
  exact ⟨A, [], c, rfl, h1, h2, ⟨rfl, by simp, fun hn => absurd hn (by simp)⟩, fun x hx => by simp at hx⟩
theorem funs_read (h : Wrote W (Like2 W w0) w0 w) {b n : Nat} (hn : n ≤ 2147483647) (hb : w.heap[b]? = w0.heap[b]?) (hf : ∀ j, j < n → FunV W w0 b j) : ∃ fs : List Fun, fs.length = n ∧ k66.C w (some ⟨b, 0, none⟩) n fs ∧ ∀ f ∈ fs, FunB f := by
 refine row_of k66 FunB w b n (by omega) (fun j hj => ?_)
 have hf := hf j hj
 have hcell : ∀ i, w.cell? ⟨b, j * 4 + i, none⟩ = w0.cell? ⟨b, j * 4 + i, none⟩ := fun i => World.cell?_of_block hb
 obtain ⟨x0, e0⟩ := hf.ints 0 (by omega)
 obtain ⟨x1, e1⟩ := hf.ints 1 (by omega)
 obtain ⟨x2, e2⟩ := hf.ints 2 (by omega)
 obtain ⟨v, e3, hv⟩ := hf.code
 obtain ⟨A, xs, c, rfl, a1, a2, a3, a4⟩ := code_read h hv
 refine ⟨⟨x0, x1, x2, xs⟩, _, rfl, k66_mk w ⟨x0, x1, x2, xs⟩ a1 a3, ⟨a2, a4⟩, fun i u hu => ?_⟩
 rw [show k66.sz = 4 from rfl, hcell]
 have hi7 := (List.getElem?_eq_some_iff.1 hu).1
 simp only [List.length_cons, List.length_nil] at hi7
 match i, hi7 with
 | 0, _ => injection hu with hu; subst hu; exact e0
 | 1, _ => injection hu with hu; subst hu; exact e1
 | 2, _ => injection hu with hu; subst hu; exact e2
 | 3, _ => injection hu with hu; subst hu; exact e3
end
def RowsV (W : Nat → Prop) (w0 : World) (v : Value) : Prop := ∃ A n c, v = .slice A n c ∧ n ≤ c ∧ n ≤ 2147483646 ∧ (0 < n → ∃ g, A = some ⟨g, 0, none⟩ ∧ W g ∧ ∀ j, j < n → ∃ u, w0.cell? ⟨g, j, none⟩ = some u ∧ IntsV W w0 u)
structure SumV (W : Nat → Prop) (w0 : World) (b j : Nat) : Prop where
 heap : ∃ v, w0.cell? ⟨b, j * 2, none⟩ = some v ∧ IntsV W w0 v
 rows : ∃ v, w0.cell? ⟨b, j * 2 + 1, none⟩ = some v ∧ RowsV W w0 v
section
variable {W : Nat → Prop} {w0 w : World}
theorem rows_read (h : Wrote W Like1 w0 w) {v : Value} (hv : RowsV W w0 v) : ∃ A, ∃ xs : List (List Int), ∃ c, v = .slice A xs.length c ∧ xs.length ≤ c ∧ xs.length ≤ 2147483646 ∧ (Kd.slice 3 (Kd.int .i64)).C w A xs.length xs ∧ ∀ r ∈ xs, r.length ≤ 2147483646 := by
 obtain ⟨A, n, c, rfl, h1, h2, h3⟩ := hv
 by_cases hn : 0 < n
 ·obtain ⟨g, rfl, hg, hc⟩ := h3 hn
  obtain ⟨xs, rfl, k2, k3⟩ := row_of (Kd.slice 3 (Kd.int .i64)) (fun r : List Int => r.length ≤ 2147483646) w g n (by omega) (fun k hk => by
   obtain ⟨u, e, hu⟩ := hc k hk
   obtain ⟨A5, xs5, c5, rfl, a1, a2, a3⟩ := ints_read (fun x v hl => like1_int hl) h hu
   obtain ⟨v', e2, hl⟩ := wrote_cell h hg e
   obtain rfl := like1_slice hl
   refine ⟨xs5, [_], rfl, ⟨A5, c5, rfl, a1, a3⟩, a2, fun i u hu => ?_⟩
   obtain rfl : i = 0 := by have := (List.getElem?_eq_some_iff.1 hu).1; simp at this; exact this
   injection hu with hu
   subst hu
   rw [show k * (Kd.slice 3 (Kd.int .i64)).sz + 0 = k from Nat.mul_one k]
   exact e2)
  exact ⟨_, xs, c, rfl, h1, h2, k2, k3⟩
 ·obtain rfl : n = 0 := by omega
  exact ⟨A, [], c, rfl, h1, h2, ⟨rfl, by simp, fun hn => absurd hn (by simp)⟩, fun x hx => by simp at hx⟩
theorem sums_read (h : Wrote W Like1 w0 w) {b n : Nat} (hn : n ≤ 2147483647) (hb : w.heap[b]? = w0.heap[b]?) (hf : ∀ j, j < n → SumV W w0 b j) : ∃ ss : List Smm, ss.length = n ∧ k34.C w (some ⟨b, 0, none⟩) n ss ∧ ∀ s ∈ ss, SumB s := by
 refine row_of k34 SumB w b n (by omega) (fun j hj => ?_)
 have hf := hf j hj
 have hcell : ∀ i, w.cell? ⟨b, j * 2 + i, none⟩ = w0.cell? ⟨b, j * 2 + i, none⟩ := fun i => World.cell?_of_block hb
 obtain ⟨v, e0, hv⟩ := hf.heap
 obtain ⟨u, e1, hu⟩ := hf.rows
 obtain ⟨A5, xs5, c5, rfl, a1, a2, a3⟩ := ints_read (fun x v hl => like1_int hl) h hv
 obtain ⟨A6, xs6, c6, rfl, b1, b2, b3, b4⟩ := rows_read h hu
 refine ⟨⟨xs5, xs6⟩, _, rfl, k34_mk w ⟨xs5, xs6⟩ a1 a3 b1 b3, ⟨a2, b2, b4⟩, fun i u hu => ?_⟩
 rw [show k34.sz = 2 from rfl, hcell]
 have hi7 := (List.getElem?_eq_some_iff.1 hu).1
 simp only [List.length_cons, List.length_nil] at hi7
 match i, hi7 with
 | 0, _ => injection hu with hu; subst hu; exact e0
 | 1, _ => injection hu with hu; subst hu; exact e1
end
def Own (lo b : Nat) (w : World) (k : Nat) : Prop := lo ≤ k ∧ k < w.heap.size ∧ k ≠ b ∧ ∃ cs e, w.heap[k]? = some (.cells cs e (0, 0))
section
variable {W : Nat → Prop} {w : World} {base : Nat} {ok : Nat → Prop}
theorem head_W {α : Type} {d : Kd α} {e : Nat} {A : Option Addr} {m c : Nat} {xs : List α} (h : d.R e w base ok (.slice A m c) xs) (hok : ∀ k, ok k → W k) (hm : 0 < m) : ∃ g, A = some ⟨g, 0, none⟩ ∧ W g := by
 obtain ⟨hn, hnc, hC⟩ := Kd.R_reads' h
 obtain ⟨ad, rfl, _⟩ := hC.2.2 (by omega)
 obtain ⟨g, rfl⟩ := Kd.R_head h
 exact ⟨g, rfl, hok g (h.1 g rfl)⟩
theorem ints_V {A : Option Addr} {m n c : Nat} {xs : List Int} (h : (Kd.int .i64).R 3 w base ok (.slice A m c) xs) (hok : ∀ k, ok k → W k) (hn : n ≤ m) (hb : n ≤ 2147483646) : IntsV W w (.slice A n c) := by
 refine ⟨A, n, c, rfl, by have := (Kd.R_reads' h).2.1; omega, hb, fun h0 => ?_⟩
 obtain ⟨g, rfl, hg⟩ := head_W h hok (by omega)
 obtain ⟨hm, hnc, hC⟩ := Kd.R_reads' h
 refine ⟨g, rfl, hg, fun j hj => ?_⟩
 obtain ⟨ad, e, hc⟩ := hC.2.2 (by omega)
 injection e with e
 subst e
 obtain ⟨c', h1, h2, h3⟩ := hc j _ (List.getElem?_eq_getElem (show j < xs.length by omega))
 have h4 : c' = [.int .i64 xs[j]] := h2
 have h5 := h3 0 (.int .i64 xs[j]) (by rw [h4]; rfl)
 rw [add_at, Nat.zero_add, show j * (Kd.int .i64).sz + 0 = j from Nat.mul_one j] at h5
 exact ⟨_, h5⟩
theorem kRI_openM {x : Ins} {cs : List Value} (h : kRI.M w base ok x cs) : ∃ A5 c5 A6 c6, cs = [.int .i64 x.f0, .int .i64 x.f1, .int .i64 x.f2, .int .i64 x.f3, .int .i64 x.f4, .slice A5 x.f5.length c5, .slice A6 x.f6.length c6] ∧ (Kd.int .i64).R 3 w base ok (.slice A5 (x.f5.length + 64) c5) (x.f5 ++ marks (-100)) ∧ (Kd.int .i64).R 3 w base ok (.slice A6 (x.f6.length + 64) c6) (x.f6 ++ marks (-300)) := by
 obtain ⟨_, _, rfl, rfl, _, _, rfl, rfl, _, _, rfl, rfl, _, _, rfl, rfl, _, _, rfl, rfl, _, _, rfl, ⟨A5, c5, rfl, h2⟩, ⟨A6, c6, rfl, h4⟩⟩ := h
 exact ⟨A5, c5, A6, c6, rfl, h2, h4⟩
theorem kRF_openM {f : Fun} {cs : List Value} (h : kRF.M w base ok f cs) : ∃ A c, cs = [.int .i64 f.f0, .int .i64 f.f1, .int .i64 f.f2, .slice A f.f3.length c] ∧ Kd.S kSp 79 w base ok (.slice A (f.f3.length + 64) c) (spare f.f3 64) := by
 obtain ⟨_, _, rfl, rfl, _, _, rfl, rfl, _, _, rfl, rfl, ⟨A, c, rfl, h2⟩⟩ := h
 exact ⟨A, c, rfl, h2⟩
theorem kRS_openM {s : Smm} {cs : List Value} (h : kRS.M w base ok s cs) : ∃ A c A1 c1, cs = [.slice A s.f0.length c, .slice A1 s.f1.length c1] ∧ (Kd.int .i64).R 3 w base ok (.slice A (s.f0.length + 64) c) (s.f0 ++ marks (-500)) ∧ Kd.S (kRw (-700)) 31 w base ok (.slice A1 (s.f1.length + 64) c1) (spareL (-700) s.f1 64) := by
 obtain ⟨_, _, rfl, ⟨A, c, rfl, h2⟩, ⟨A1, c1, rfl, h4⟩⟩ := h
 exact ⟨A, c, A1, c1, rfl, h2, h4⟩
theorem code_V {A : Option Addr} {c : Nat} {xs : List Ins} (hS : Kd.S kSp 79 w base ok (.slice A (xs.length + 64) c) (spare xs 64)) (hok : ∀ k, ok k → W k) (hb : xs.length ≤ 2147483646) (hx : ∀ x ∈ xs, InsB x) : CodeV W w (.slice A xs.length c) := by
 have h := Kd.S_R hS
 refine ⟨A, xs.length, c, rfl, by have := (Kd.R_reads' h).2.1; omega, hb, fun h0 => ?_⟩
 obtain ⟨g, rfl, hg⟩ := head_W h hok (by omega)
 refine ⟨g, rfl, hg, fun k hk => ?_⟩
 obtain ⟨cs, h1, h2, h3, _⟩ := Kd.R_elem h (.inl z79) (k : Int) (by omega) (by omega)
 rw [Int.toNat_natCast, List.getD_eq_getElem?_getD, spare, List.getElem?_append_left (by simpa using hk), List.getElem?_map, List.getElem?_eq_getElem hk] at h2
 have h4 : kRI.M w base (fun k => ok k ∧ k ≠ g) xs[k] cs := h2
 obtain ⟨A5, c5, A6, c6, rfl, r5, r6⟩ := kRI_openM h4
 have hxk := hx _ (List.getElem_mem hk)
 have h5 : ∀ (j : Nat) (u : Value), [Value.int .i64 xs[k].f0, .int .i64 xs[k].f1, .int .i64 xs[k].f2, .int .i64 xs[k].f3, .int .i64 xs[k].f4, .slice A5 xs[k].f5.length c5, .slice A6 xs[k].f6.length c6][j]? = some u → w.cell? ⟨g, k * 7 + j, none⟩ = some u := fun j u hu => by
  have := h3 j u hu
  rwa [Int.toNat_natCast] at this
 refine ⟨fun i hi => ?_, ⟨_, h5 5 _ rfl, ints_V r5 (fun k hk => hok k hk.1) (by omega) hxk.1⟩, ⟨_, h5 6 _ rfl, ints_V r6 (fun k hk => hok k hk.1) (by omega) hxk.2⟩⟩
 match i, hi with
 | 0, _ => exact ⟨_, h5 0 _ rfl⟩
 | 1, _ => exact ⟨_, h5 1 _ rfl⟩
 | 2, _ => exact ⟨_, h5 2 _ rfl⟩
 | 3, _ => exact ⟨_, h5 3 _ rfl⟩
 | 4, _ => exact ⟨_, h5 4 _ rfl⟩
theorem rows_V {A : Option Addr} {c : Nat} {xs : List (List Int)} {t : Int} (hS : Kd.S (kRw t) 31 w base ok (.slice A (xs.length + 64) c) (spareL t xs 64)) (hok : ∀ k, ok k → W k) (hb : xs.length ≤ 2147483646) (hx : ∀ x ∈ xs, x.length ≤ 2147483646) : RowsV W w (.slice A xs.length c) := by
 have h := Kd.S_R hS
 refine ⟨A, xs.length, c, rfl, by have := (Kd.R_reads' h).2.1; omega, hb, fun h0 => ?_⟩
 obtain ⟨g, rfl, hg⟩ := head_W h hok (by omega)
 refine ⟨g, rfl, hg, fun k hk => ?_⟩
 obtain ⟨cs, h1, h2, h3, _⟩ := Kd.R_elem h (.inl []) (k : Int) (by omega) (by omega)
 rw [Int.toNat_natCast, List.getD_eq_getElem?_getD, spareL, List.getElem?_append_left (by simpa using hk), List.getElem?_map, List.getElem?_eq_getElem hk] at h2
 have h4 : (kRoom t).M w base (fun k => ok k ∧ k ≠ g) xs[k] cs := h2
 obtain ⟨A5, c5, rfl, r5⟩ := h4
 have h5 := h3 0 _ rfl
 rw [Int.toNat_natCast, show k * (kRw t).sz + 0 = k from Nat.mul_one k] at h5
 exact ⟨_, h5, ints_V r5 (fun k hk => hok k hk.1) (by omega) (hx _ (List.getElem_mem hk))⟩
end
theorem own_of {α : Type} {d : Kd α} {e lo b : Nat} {w : World} {m c : Nat} {xs : List α} (hS : Kd.S d e w lo (fun _ => True) (.slice (some ⟨b, 0, none⟩) m c) xs) :
  d.R e w lo (fun k => lo ≤ k ∧ k < w.heap.size ∧ ∃ cs e, w.heap[k]? = some (.cells cs e (0, 0))) (.slice (some ⟨b, 0, none⟩) m c) xs :=
 Kd.R_mono (Kd.S_R (Kd.S_bound hS)) (fun k hk => ⟨hk.2.1, hk.2.2.1, by obtain ⟨q, _, cs, h⟩ := hk.2.2.2; exact ⟨cs, q, h⟩⟩)
theorem funs_V {w : World} {lo c : Nat} {A : Option Addr} {fs : List Fun} (hS : Kd.S kSpF 66 w lo (fun _ => True) (.slice A (fs.length + 64) c) (spareF fs 64)) (hb : ∀ f ∈ fs, FunB f) :
  ∃ b, A = some ⟨b, 0, none⟩ ∧ lo ≤ b ∧ b < w.heap.size ∧ fs.length + 64 ≤ c ∧ ∀ j, j < fs.length → FunV (Own lo b w) w b j := by
 obtain ⟨g, rfl, hg1, hg2⟩ := head_W (W := fun k => lo ≤ k ∧ k < w.heap.size) (Kd.S_R (Kd.S_bound hS)) (fun k hk => ⟨hk.2.1, hk.2.2.1⟩) (by omega)
 have h := own_of hS
 refine ⟨g, rfl, hg1, hg2, by have := (Kd.R_reads' h).2.1; omega, fun k hk => ?_⟩
 obtain ⟨cs, h1, h2, h3, _⟩ := Kd.R_elem h (.inl zF) (k : Int) (by omega) (by omega)
 rw [Int.toNat_natCast, List.getD_eq_getElem?_getD, spareF, List.getElem?_append_left (by simpa using hk), List.getElem?_map, List.getElem?_eq_getElem hk] at h2
 have h4 : kRF.M w lo _ fs[k] cs := h2
 obtain ⟨A3, c3, rfl, r3⟩ := kRF_openM h4
 have hfk := hb _ (List.getElem_mem hk)
 have h5 : ∀ (j : Nat) (u : Value), [Value.int .i64 fs[k].f0, .int .i64 fs[k].f1, .int .i64 fs[k].f2, .slice A3 fs[k].f3.length c3][j]? = some u → w.cell? ⟨g, k * 4 + j, none⟩ = some u := fun j u hu => by
  have := h3 j u hu
  rwa [Int.toNat_natCast] at this
 refine ⟨fun i hi => ?_, ⟨_, h5 3 _ rfl, code_V r3 (fun k hk => ⟨hk.1.1, hk.1.2.1, hk.2, hk.1.2.2⟩) hfk.1 hfk.2⟩⟩
 match i, hi with
 | 0, _ => exact ⟨_, h5 0 _ rfl⟩
 | 1, _ => exact ⟨_, h5 1 _ rfl⟩
 | 2, _ => exact ⟨_, h5 2 _ rfl⟩
theorem sums_V {w : World} {lo c : Nat} {A : Option Addr} {ss : List Smm} (hS : Kd.S kSpS 34 w lo (fun _ => True) (.slice A (ss.length + 64) c) (spareS ss 64)) (hb : ∀ s ∈ ss, SumB s) :
  ∃ b, A = some ⟨b, 0, none⟩ ∧ lo ≤ b ∧ b < w.heap.size ∧ ss.length + 64 ≤ c ∧ ∀ j, j < ss.length → SumV (Own lo b w) w b j := by
 obtain ⟨g, rfl, hg1, hg2⟩ := head_W (W := fun k => lo ≤ k ∧ k < w.heap.size) (Kd.S_R (Kd.S_bound hS)) (fun k hk => ⟨hk.2.1, hk.2.2.1⟩) (by omega)
 have h := own_of hS
 refine ⟨g, rfl, hg1, hg2, by have := (Kd.R_reads' h).2.1; omega, fun k hk => ?_⟩
 obtain ⟨cs, h1, h2, h3, _⟩ := Kd.R_elem h (.inl zS) (k : Int) (by omega) (by omega)
 rw [Int.toNat_natCast, List.getD_eq_getElem?_getD, spareS, List.getElem?_append_left (by simpa using hk), List.getElem?_map, List.getElem?_eq_getElem hk] at h2
 have h4 : kRS.M w lo _ ss[k] cs := h2
 obtain ⟨A3, c3, A4, c4, rfl, r3, r4⟩ := kRS_openM h4
 have hsk := hb _ (List.getElem_mem hk)
 have h5 : ∀ (j : Nat) (u : Value), [Value.slice A3 ss[k].f0.length c3, .slice A4 ss[k].f1.length c4][j]? = some u → w.cell? ⟨g, k * 2 + j, none⟩ = some u := fun j u hu => by
  have := h3 j u hu
  rwa [Int.toNat_natCast] at this
 exact ⟨⟨_, h5 0 _ rfl, ints_V r3 (fun k hk => ⟨hk.1.1, hk.1.2.1, hk.2, hk.1.2.2⟩) (by omega) hsk.1⟩, ⟨_, h5 1 _ rfl, rows_V r4 (fun k hk => ⟨hk.1.1, hk.1.2.1, hk.2, hk.1.2.2⟩) hsk.2.1 hsk.2.2⟩⟩
theorem like1_put (i j : Int) : Like1 (.int .i64 i) (.int .i64 j) := .inl ⟨i, j, rfl, rfl⟩
set_option maxRecDepth 100000 in
set_option maxHeartbeats 3200000 in
theorem turnNumbers_any {W : Nat → Prop} {lo : Nat} {w0 : World} (hlo : lo ≤ w0.heap.size) (A : Option Addr) (n c : Nat) (w : World) (hV : IntsV W w0 (.slice A n c)) (hS : Sim W Like1 lo w0 w) :
  Calls Tryz.prog 59 #[.slice A n c] w fun e w' => e = .returned (.tuple #[]) ∧ Sim W Like1 lo w0 w' := by
 obtain ⟨_, _, _, e, _, hn, hc⟩ := hV
 cases e
 have HC := Lib.hid hc
 have HS := Lib.hid hS
 clear hc hS
 go_enter Tryz.func59, Tryz.ntmps59
 go_wp2_with fail
 go_loopw [2] (fun i wr => ∃ j : Nat, j ≤ n ∧ i = .int .i64 j ∧ Sim W Like1 lo w0 wr) (fun i _ => n - (intOf i).toNat)
 case atStart => exact ⟨0, by omega, rfl, HS.out⟩
 case round =>
  clear HS
  obtain ⟨j, hj, rfl, hs⟩ := hrel
  have HS := Lib.hid hs
  clear hs
  by_cases hlt : j < n
  ·obtain ⟨g, rfl, hg, hcs⟩ := HC.out (by omega)
   obtain ⟨i, hi⟩ := hcs j hlt
   obtain ⟨v', x0, hl⟩ := HS.out.cell hg hi
   obtain ⟨y, rfl⟩ := like1_int hl
   have HI := Lib.hid hi
   have HG := Lib.hid hg
   have z0 := HS.out.frozen hg j
   clear hi hcs hg hl
   by_cases hy : y = 9
   ·go_wp2_with fail
    go_roundw
    case rel => exact ⟨j + 1, by omega, by go_num, HS.out.set HG.out HI.out (like1_put _ _)⟩
    case measure => simp [intOf]; omega
   ·go_wp2_with fail
    go_roundw
    case rel => exact ⟨j + 1, by omega, by go_num, HS.out.set HG.out HI.out (like1_put _ _)⟩
    case measure => simp [intOf]; omega
  ·obtain rfl : j = n := by omega
   go_wp2_with fail
   refine bodyPost_end (results_none rfl _ _ _) rfl ⟨rfl, HS.out⟩
set_option maxRecDepth 100000 in
set_option maxHeartbeats 3200000 in
theorem turnSums_any {W : Nat → Prop} {lo : Nat} {w0 : World} (hlo : lo ≤ w0.heap.size) (b n c : Nat) (w : World) (hb : ¬ W b) (hn : n ≤ 2147483647) (hV : ∀ j, j < n → SumV W w0 b j) (hS : Sim W Like1 lo w0 w) :
  Calls Tryz.prog 18 #[.slice (some ⟨b, 0, none⟩) n c] w fun e w' => e = .returned (.tuple #[]) ∧ Sim W Like1 lo w0 w' := by
 have HV := Lib.hid hV
 have HS := Lib.hid hS
 have HNB := Lib.hid hb
 clear hV hS hb
 go_enter Tryz.func18, Tryz.ntmps18
 go_wp2_with fail
 go_loopw [2] (fun i wr => ∃ j : Nat, j ≤ n ∧ i = .int .i64 j ∧ Sim W Like1 lo w0 wr) (fun i _ => n - (intOf i).toNat)
 case atStart => exact ⟨0, by omega, rfl, HS.out⟩
 case round =>
  clear HS
  obtain ⟨j, hj, rfl, hs⟩ := hrel
  have HS := Lib.hid hs
  clear hs
  by_cases hlt : j < n
  ·have hv := HV.out j hlt
   obtain ⟨v, e0, hvi⟩ := hv.heap
   obtain ⟨u, e1, hvr⟩ := hv.rows
   obtain ⟨A0, m0, c0, rfl, _⟩ := id hvi
   obtain ⟨A1, m1, c1, rfl, hc1, hm1, hr1⟩ := id hvr
   have x0 := HS.out.far (a := ⟨b, j * 2, none⟩) HNB.out e0
   have E1 := Lib.hid e1
   have HVI := Lib.hid hvi
   have HR1 := Lib.hid hr1
   clear hv e0 e1 hvi hvr hr1
   go_wp2_with fail
   refine (turnNumbers_any hlo A0 m0 c0 wr HVI.out HS.out).mono ?_
   rintro e w3 ⟨rfl, hs3⟩
   have HS3 := Lib.hid hs3
   clear hs3 HS
   clear x0
   go_wp2_with fail
   go_loopw [3] (fun i wr => ∃ k : Nat, k ≤ m1 ∧ i = .int .i64 k ∧ Sim W Like1 lo w0 wr) (fun i _ => m1 - (intOf i).toNat)
   case atStart => exact ⟨0, by omega, rfl, HS3.out⟩
   case round =>
    clear HS3
    obtain ⟨k, hk, rfl, hs⟩ := hrel
    have HS := Lib.hid hs
    clear hs
    have x1 := HS.out.far (a := ⟨b, j * 2 + 1, none⟩) HNB.out E1.out
    by_cases hkt : k < m1
    ·obtain ⟨g, rfl, hg, hcs⟩ := HR1.out (by omega)
     obtain ⟨u, hu, hui⟩ := hcs k hkt
     obtain ⟨v', y0, hl⟩ := HS.out.cell hg hu
     obtain ⟨A2, m2, c2, rfl, _⟩ := id hui
     obtain rfl := like1_slice hl
     have HUI := Lib.hid hui
     clear hl hui hu hcs hg
     go_wp2_with fail
     refine (turnNumbers_any hlo A2 m2 c2 wr HUI.out HS.out).mono ?_
     rintro e w4 ⟨rfl, hs4⟩
     have HS4 := Lib.hid hs4
     clear hs4 HS x1 y0
     go_wp2_with fail
     go_roundw
     case rel => exact ⟨k + 1, by omega, by go_num, HS4.out⟩
     case measure => simp [intOf]; omega
    ·obtain rfl : k = m1 := by omega
     go_wp2_with fail
     go_roundw
     case rel => exact ⟨j + 1, by omega, by go_num, HS.out⟩
     case measure => simp [intOf]; omega
  ·obtain rfl : j = n := by omega
   go_wp2_with fail
   refine bodyPost_end (results_none rfl _ _ _) rfl ⟨rfl, HS.out⟩
section
variable {W : Nat → Prop} {lo : Nat} {w0 w : World}
theorem like2_put (i j : Int) : Like2 W w0 (.int .i64 i) (.int .i64 j) := .inl ⟨i, j, rfl, rfl⟩
theorem like2_set {u v : Value} (hu : IntsV W w0 u) (hv : IntsV W w0 v) : Like2 W w0 u v := .inr (.inl ⟨hu, hv⟩)
theorem Sim.int (h : Sim W (Like2 W w0) lo w0 w) {g j : Nat} (hg : W g) (hc : ∃ x, w0.cell? ⟨g, j, none⟩ = some (.int .i64 x)) : ∃ y, w.cell? ⟨g, j, none⟩ = some (.int .i64 y) := by
 obtain ⟨x, hx⟩ := hc
 obtain ⟨v, h1, h2⟩ := h.cell hg hx
 obtain ⟨y, rfl⟩ := like_int h2
 exact ⟨y, h1⟩
theorem Sim.ints (h : Sim W (Like2 W w0) lo w0 w) {g j : Nat} (hg : W g) (hc : ∃ v, w0.cell? ⟨g, j, none⟩ = some v ∧ IntsV W w0 v) : ∃ v, w.cell? ⟨g, j, none⟩ = some v ∧ IntsV W w0 v := by
 obtain ⟨x, hx, hv⟩ := hc
 obtain ⟨v, h1, h2⟩ := h.cell hg hx
 exact ⟨v, h1, like_ints h2 hv⟩
theorem Sim.putInt (h : Sim W (Like2 W w0) lo w0 w) {g j : Nat} (hg : W g) (hc : ∃ x, w0.cell? ⟨g, j, none⟩ = some (.int .i64 x)) (y : Int) : Sim W (Like2 W w0) lo w0 (w.setCell ⟨g, j, none⟩ (.int .i64 y)) := by
 obtain ⟨x, hx⟩ := hc
 exact h.set hg hx (like2_put x y)
theorem Sim.putInts (h : Sim W (Like2 W w0) lo w0 w) {g j : Nat} (hg : W g) (hc : ∃ v, w0.cell? ⟨g, j, none⟩ = some v ∧ IntsV W w0 v) {u : Value} (hu : IntsV W w0 u) : Sim W (Like2 W w0) lo w0 (w.setCell ⟨g, j, none⟩ u) := by
 obtain ⟨x, hx, hv⟩ := hc
 exact h.set hg hx (like2_set hv hu)
theorem set_keep {a p : Addr} {A : Option Addr} {n c : Nat} {x y : Int} (h : w.cell? a = some (.slice A n c)) (hp : w.cell? p = some (.int .i64 x)) : (w.setCell p (.int .i64 y)).cell? a = some (.slice A n c) := by
 rw [World.cell?_setCell_other]
 ·exact h
 ·rintro rfl
  rw [h] at hp
  cases hp
theorem put_ins {P : Program} {ops : Array Oper} {o : Oper} {rest : List Oper} {a : Act} {Q : Exit → Act → World → Prop} (hp : (P.info? 79).map (·.size) = some 7) (hgd : o.guard = none) (hN : o.dst = none) (p x : Operand) (ho : o.op = .store 79 p x)
  {g i : Nat} {x0 x1 x2 x3 x4 : Int} {v5 v6 : Value} (haddr : a.eval p = .pointer (some ⟨g, i, none⟩)) (hx : a.eval x = .agg #[.int .i64 x0, .int .i64 x1, .int .i64 x2, .int .i64 x3, .int .i64 x4, v5, v6])
  (hS : Sim W (Like2 W w0) lo w0 w) (hg : W g) (hI : InsV W w0 g i) (h5 : IntsV W w0 v5) (h6 : IntsV W w0 v6) (h : ∀ w', Sim W (Like2 W w0) lo w0 w' → (∀ k, ¬ W k → w'.heap[k]? = w.heap[k]?) → wpList P ops Q rest a w') : wpList P ops Q (o :: rest) a w := by
 obtain ⟨A5, n5, c5, rfl, k5⟩ := id h5
 obtain ⟨A6, n6, c6, rfl, k6⟩ := id h6
 obtain ⟨cs, cs', e, e1, e2, e3, e4⟩ := hS.wr g hg
 have hsz : i + 7 ≤ cs'.size := by
  obtain ⟨v, hv, _⟩ := hI.rets
  rw [blk_cell e1] at hv
  have := (Array.getElem?_eq_some_iff.1 hv).1
  omega
 have hrun : (Instr.storeAt 79 (.pointer (some ⟨g, i, none⟩)) (.agg #[.int .i64 x0, .int .i64 x1, .int .i64 x2, .int .i64 x3, .int .i64 x4, .slice A5 n5 c5, .slice A6 n6 c6])).run P w = .ok () (w.setCells g i [.int .i64 x0, .int .i64 x1, .int .i64 x2, .int .i64 x3, .int .i64 x4, .slice A5 n5 c5, .slice A6 n6 c6]) :=
  run_store_run _ _ _ e2 rfl hp hsz (by intro q hq; simp only [List.mem_cons, List.not_mem_nil, or_false] at hq; rcases hq with rfl | rfl | rfl | rfl | rfl | rfl | rfl <;> rfl)
 refine wpList_plain hgd fun K hK => ?_
 unfold Oper.wp execOp
 simp only [ho, haddr, hx, Sem.run_bind, Sem.run_pure, Result.andThen_ok, hrun]
 show K (a.put o.dst undef) _
 rw [hN]
 refine hK _ _ (h _ ?_ fun k hk => setCells_far _ _ k (fun e => hk (e ▸ hg)))
 have s0 := hS.putInt hg (hI.ints 0 (by omega)) x0
 have s1 := s0.putInt hg (hI.ints 1 (by omega)) x1
 have s2 := s1.putInt hg (hI.ints 2 (by omega)) x2
 have s3 := s2.putInt hg (hI.ints 3 (by omega)) x3
 have s4 := s3.putInt hg (hI.ints 4 (by omega)) x4
 have s5 := s4.putInts hg hI.args h5
 exact s5.putInts hg hI.rets h6
end
theorem size_ins : (Tryz.prog.info? 79).map (·.size) = some 7 := by kernel_rfl
set_option maxRecDepth 100000 in
set_option maxHeartbeats 6400000 in
theorem turn_any {W : Nat → Prop} {lo : Nat} {w0 : World} (hlo : lo ≤ w0.heap.size) (G : Int) (b n c : Nat) (w : World) (hb : ¬ W b) (hn : n ≤ 2147483647) (hV : ∀ j, j < n → FunV W w0 b j) (hS : Sim W (Like2 W w0) lo w0 w) :
  Calls Tryz.prog 17 #[.agg #[.int .i64 G, .slice (some ⟨b, 0, none⟩) n c]] w fun e w' => e = .returned (.tuple #[]) ∧ Sim W (Like2 W w0) lo w0 w' := by
 have HV := Lib.hid hV
 have HS0 := Lib.hid hS
 have HNB := Lib.hid hb
 clear hV hS hb
 go_enter Tryz.func17, Tryz.ntmps17
 go_upto_region 1 with (fail)
 obtain ⟨N, hN⟩ : ∃ N, w.heap.size = N := ⟨_, rfl⟩
 have hNW : ¬ W N := fun h => by have h1 := HS0.out.lt h; have h2 := HS0.out.big; omega
 have HNW := Lib.hid hNW
 have HBX := Lib.hid (hN ▸ alloc_new w (.cells #[.int .i64 G, .slice (some ⟨b, 0, none⟩) n c] 24) : (w.alloc (.cells #[.int .i64 G, .slice (some ⟨b, 0, none⟩) n c] 24)).heap[N]? = some (.cells #[.int .i64 G, .slice (some ⟨b, 0, none⟩) n c] 24 (0, 0)))
 have HS := Lib.hid (HS0.out.below hlo (below1 w (.cells #[.int .i64 G, .slice (some ⟨b, 0, none⟩) n c] 24)))
 clear hNW HS0
 rw [hN]
 clear hN
 generalize w.alloc _ = w1 at HBX HS ⊢
 go_wp2_with fail
 go_loopw [2] (fun i wr => ∃ j : Nat, j ≤ n ∧ i = .int .i64 j ∧ Sim W (Like2 W w0) lo w0 wr ∧ wr.heap[N]? = some (.cells #[.int .i64 G, .slice (some ⟨b, 0, none⟩) n c] 24 (0, 0))) (fun i _ => n - (intOf i).toNat)
 case atStart => exact ⟨0, by omega, rfl, HS.out, HBX.out⟩
 case round =>
  clear HS HBX
  obtain ⟨j, hj, rfl, hs, hx⟩ := hrel
  have HS := Lib.hid hs
  have HBX := Lib.hid hx
  have b1 := blk_cell hx 1
  simp only [List.getElem?_toArray, List.getElem?_cons_succ, List.getElem?_cons_zero] at b1
  clear hs hx
  by_cases hlt : j < n
  ·have hv := HV.out j hlt
   obtain ⟨v, e3, hc⟩ := hv.code
   obtain ⟨A3, n3, c3, rfl, hc3, hn3, hr3⟩ := hc
   have x3 := HS.out.far (a := ⟨b, j * 4 + 3, none⟩) HNB.out e3
   have HR3 := Lib.hid hr3
   clear hv e3 hr3
   go_upto_region 5 with (fail)
   clear x3 b1
   go_wp2_with fail
   go_loopw [4] (fun i wr => ∃ k : Nat, k ≤ n3 ∧ i = .int .i64 k ∧ Sim W (Like2 W w0) lo w0 wr ∧ wr.heap[N]? = some (.cells #[.int .i64 G, .slice (some ⟨b, 0, none⟩) n c] 24 (0, 0))) (fun i _ => n3 - (intOf i).toNat)
   case atStart => exact ⟨0, by omega, rfl, HS.out, HBX.out⟩
   case round =>
    clear HS HBX
    obtain ⟨k, hk, rfl, hs, hx⟩ := hrel
    have HS := Lib.hid hs
    have HBX := Lib.hid hx
    clear hs hx
    by_cases hkt : k < n3
    ·obtain ⟨g, rfl, hg, hcs⟩ := HR3.out (by omega)
     have HI := Lib.hid (hcs k hkt)
     have HG := Lib.hid hg
     clear hcs hg
     obtain ⟨v5, y5, hi5⟩ := HS.out.ints HG.out HI.out.args
     obtain ⟨A5, n5, c5, rfl, hc5, hn5, hr5⟩ := hi5
     have HR5 := Lib.hid hr5
     clear hr5
     go_upto_region 8 with (fail)
     go_wp2_with fail
     go_loopw [5] (fun i wr => ∃ m : Nat, m ≤ n5 ∧ i = .int .i64 m ∧ Sim W (Like2 W w0) lo w0 wr ∧ wr.cell? ⟨g, k * 7 + 5, none⟩ = some (.slice A5 n5 c5) ∧ wr.heap[N]? = some (.cells #[.int .i64 G, .slice (some ⟨b, 0, none⟩) n c] 24 (0, 0))) (fun i _ => n5 - (intOf i).toNat)
     case atStart => exact ⟨0, by omega, rfl, HS.out, y5, HBX.out⟩
     case round =>
      clear HS HBX y5
      obtain ⟨m, hm, rfl, hs, y5, hx⟩ := hrel
      have HS := Lib.hid hs
      have HBX := Lib.hid hx
      clear hs hx
      by_cases hmt : m < n5
      ·obtain ⟨ga, rfl, hga, hca⟩ := HR5.out (by omega)
       obtain ⟨y, y6⟩ := HS.out.int hga (hca m hmt)
       have z0 := HS.out.frozen hga m
       have HP := Lib.hid (fun v : Int => (⟨(HS.out.below hlo (below_drew (Below.refl _ wr))).putInt hga (hca m hmt) v, set_keep (w := wr.drew) y5 y6, blk_far (w := wr.drew) (p := ⟨ga, m, none⟩) HBX.out (fun e => HNW.out (e ▸ hga)) _⟩ : Sim W (Like2 W w0) lo w0 (wr.drew.setCell ⟨ga, m, none⟩ (.int .i64 v)) ∧ (wr.drew.setCell ⟨ga, m, none⟩ (.int .i64 v)).cell? ⟨g, k * 7 + 5, none⟩ = some (.slice (some ⟨ga, 0, none⟩) n5 c5) ∧ (wr.drew.setCell ⟨ga, m, none⟩ (.int .i64 v)).heap[N]? = some (.cells #[.int .i64 G, .slice (some ⟨b, 0, none⟩) n c] 24 (0, 0))))
       clear hga hca HS HBX
       go_upto_region 11 with (fail)
       go_still_tail 15, (by kernel_rfl)
       change wpList _ _ _ _ _ wr.drew
       have y5' : wr.drew.cell? ⟨g, k * 7 + 5, none⟩ = _ := y5
       have y6' : wr.drew.cell? ⟨ga, m, none⟩ = _ := y6
       have z0' : wr.drew.frozen? ⟨ga, m, none⟩ = _ := z0
       clear y5 y6 z0
       generalize wr.drew = w4 at HP y5' y6' z0' ⊢
       go_wp2_with fail
       clear y5' y6' z0'
       obtain ⟨p1, p2, p3⟩ := HP.out _
       go_roundw
       case rel => exact ⟨m + 1, by omega, by go_num, p1, p2, p3⟩
       case measure => simp [intOf]; omega
      ·obtain rfl : m = n5 := by omega
       go_upto_region 12 with (fail)
       clear y5
       obtain ⟨v5, y5, hi6⟩ := HS.out.ints HG.out HI.out.rets
       obtain ⟨A6, n6, c6, rfl, hc6, hn6, hr6⟩ := hi6
       have HR6 := Lib.hid hr6
       clear hr6
       go_wp2_with fail
       go_loopw [6] (fun i wr => ∃ m : Nat, m ≤ n6 ∧ i = .int .i64 m ∧ Sim W (Like2 W w0) lo w0 wr ∧ wr.cell? ⟨g, k * 7 + 6, none⟩ = some (.slice A6 n6 c6) ∧ wr.heap[N]? = some (.cells #[.int .i64 G, .slice (some ⟨b, 0, none⟩) n c] 24 (0, 0))) (fun i _ => n6 - (intOf i).toNat)
       case atStart => exact ⟨0, by omega, rfl, HS.out, y5, HBX.out⟩
       case round =>
        clear HS HBX y5
        rename_i mo _ _ _ _ _ _ _
        obtain ⟨m, hm, rfl, hs, y5, hx⟩ := hrel
        have HS := Lib.hid hs
        have HBX := Lib.hid hx
        clear hs hx
        by_cases hmt : m < n6
        ·obtain ⟨ga, rfl, hga, hca⟩ := HR6.out (by omega)
         obtain ⟨y, y6⟩ := HS.out.int hga (hca m hmt)
         have z0 := HS.out.frozen hga m
         have HP := Lib.hid (fun v : Int => (⟨(HS.out.below hlo (below_drew (Below.refl _ wr))).putInt hga (hca m hmt) v, set_keep (w := wr.drew) y5 y6, blk_far (w := wr.drew) (p := ⟨ga, m, none⟩) HBX.out (fun e => HNW.out (e ▸ hga)) _⟩ : Sim W (Like2 W w0) lo w0 (wr.drew.setCell ⟨ga, m, none⟩ (.int .i64 v)) ∧ (wr.drew.setCell ⟨ga, m, none⟩ (.int .i64 v)).cell? ⟨g, k * 7 + 6, none⟩ = some (.slice (some ⟨ga, 0, none⟩) n6 c6) ∧ (wr.drew.setCell ⟨ga, m, none⟩ (.int .i64 v)).heap[N]? = some (.cells #[.int .i64 G, .slice (some ⟨b, 0, none⟩) n c] 24 (0, 0))))
         clear hga hca HS HBX
         go_upto_region 15 with (fail)
         go_still_tail 15, (by kernel_rfl)
         change wpList _ _ _ _ _ wr.drew
         have y5' : wr.drew.cell? ⟨g, k * 7 + 6, none⟩ = _ := y5
         have y6' : wr.drew.cell? ⟨ga, m, none⟩ = _ := y6
         have z0' : wr.drew.frozen? ⟨ga, m, none⟩ = _ := z0
         clear y5 y6 z0
         generalize wr.drew = w4 at HP y5' y6' z0' ⊢
         go_wp2_with fail
         clear y5' y6' z0'
         obtain ⟨p1, p2, p3⟩ := HP.out _
         go_roundw
         case rel => exact ⟨m + 1, by omega, by go_num, p1, p2, p3⟩
         case measure => simp [intOf]; omega
        ·obtain rfl : m = n6 := by omega
         go_upto_region 16 with (fail)
         clear y5
         obtain ⟨x2, y2⟩ := HS.out.int HG.out (HI.out.ints 2 (by omega))
         have z0 := HS.out.frozen HG.out (k * 7 + 2)
         have HP := Lib.hid (fun v : Int => (⟨HS.out.putInt HG.out (HI.out.ints 2 (by omega)) v, blk_far (p := ⟨g, k * 7 + 2, none⟩) HBX.out (fun e => HNW.out (e ▸ HG.out)) _⟩ : Sim W (Like2 W w0) lo w0 (wr.setCell ⟨g, k * 7 + 2, none⟩ (.int .i64 v)) ∧ (wr.setCell ⟨g, k * 7 + 2, none⟩ (.int .i64 v)).heap[N]? = some (.cells #[.int .i64 G, .slice (some ⟨b, 0, none⟩) n c] 24 (0, 0))))
         by_cases hx2 : x2 = 0
         ·subst hx2
          go_wp2_with fail
          go_roundw
          case rel => exact ⟨k + 1, by omega, by go_num, HS.out, HBX.out⟩
          case measure => simp [intOf]; omega
         ·go_wp2_with fail
          clear y2 z0
          obtain ⟨p1, p2⟩ := HP.out _
          go_roundw
          case rel => exact ⟨k + 1, by omega, by go_num, p1, p2⟩
          case measure => simp [intOf]; omega
    ·obtain rfl : k = n3 := by omega
     go_wp2_with fail
     go_loopw [7] (fun i wr => ∃ q : Nat, q ≤ k ∧ i = .int .i64 q ∧ Sim W (Like2 W w0) lo w0 wr ∧ wr.heap[N]? = some (.cells #[.int .i64 G, .slice (some ⟨b, 0, none⟩) n c] 24 (0, 0))) (fun i _ => k - (intOf i).toNat)
     case atStart => exact ⟨0, by omega, rfl, HS.out, HBX.out⟩
     case round =>
      clear HS HBX
      obtain ⟨q, hq, rfl, hs, hx⟩ := hrel
      have HS := Lib.hid hs
      have HBX := Lib.hid hx
      clear hs hx
      have w1' : IntKind.i64.wrap (2 * (q : Int)) = 2 * (q : Int) := IntWalk.i64_in _ (by omega)
      have w2' : IntKind.i64.wrap (2 * (q : Int) + 2) = 2 * (q : Int) + 2 := IntWalk.i64_in _ (by omega)
      by_cases hqt : 2 * (q : Int) + 2 < (k : Int)
      ·obtain ⟨g, rfl, hg, hcs⟩ := HR3.out (by omega)
       obtain ⟨m, hm⟩ : ∃ m : Nat, (k : Int) - 2 - (q : Int) = (m : Int) := ⟨k - 2 - q, by omega⟩
       have HI := Lib.hid (hcs q (by omega))
       have HJ := Lib.hid (hcs m (by omega))
       have HG := Lib.hid hg
       clear hcs hg
       obtain ⟨x0, a0⟩ := HS.out.int HG.out (HI.out.ints 0 (by omega))
       obtain ⟨x1, a1⟩ := HS.out.int HG.out (HI.out.ints 1 (by omega))
       obtain ⟨x2, a2⟩ := HS.out.int HG.out (HI.out.ints 2 (by omega))
       obtain ⟨x3, a3⟩ := HS.out.int HG.out (HI.out.ints 3 (by omega))
       obtain ⟨x4, a4⟩ := HS.out.int HG.out (HI.out.ints 4 (by omega))
       obtain ⟨x5, a5, i5⟩ := HS.out.ints HG.out HI.out.args
       obtain ⟨x6, a6, i6⟩ := HS.out.ints HG.out HI.out.rets
       obtain ⟨A5, n5, c5, rfl, _⟩ := id i5
       obtain ⟨A6, n6, c6, rfl, _⟩ := id i6
       have I5 := Lib.hid i5
       have I6 := Lib.hid i6
       clear i5 i6
       have a0 : wr.cell? ⟨g, q * 7, none⟩ = _ := a0
       have w3' : IntKind.i64.wrap ((k : Int) - 2) = (k : Int) - 2 := IntWalk.i64_in _ (by omega)
       go_upto_region 22 with (fail)
       have HO := Lib.hid (HS.out.below hlo (below1 wr (.cells #[.int .i64 x0, .int .i64 x1, .int .i64 x2, .int .i64 x3, .int .i64 x4, .slice A5 n5 c5, .slice A6 n6 c6] 79)))
       have HBY := Lib.hid (blk_alloc HBX.out (.cells #[.int .i64 x0, .int .i64 x1, .int .i64 x2, .int .i64 x3, .int .i64 x4, .slice A5 n5 c5, .slice A6 n6 c6] 79))
       have HBZ := Lib.hid (alloc_new wr (.cells #[.int .i64 x0, .int .i64 x1, .int .i64 x2, .int .i64 x3, .int .i64 x4, .slice A5 n5 c5, .slice A6 n6 c6] 79) : (wr.alloc (.cells #[.int .i64 x0, .int .i64 x1, .int .i64 x2, .int .i64 x3, .int .i64 x4, .slice A5 n5 c5, .slice A6 n6 c6] 79)).heap[wr.heap.size]? = some (.cells #[.int .i64 x0, .int .i64 x1, .int .i64 x2, .int .i64 x3, .int .i64 x4, .slice A5 n5 c5, .slice A6 n6 c6] 79 (0, 0)))
       have HNX := Lib.hid (fun h => by have h1 := HS.out.lt h; have h2 := HS.out.big; omega : ¬ W wr.heap.size)
       clear a0 a1 a2 a3 a4 a5 a6 HS HBX
       generalize wr.alloc _ = w4 at HO HBY HBZ ⊢
       generalize wr.heap.size = X at HBZ HNX ⊢
       obtain ⟨y0, a0⟩ := HO.out.int HG.out (HJ.out.ints 0 (by omega))
       obtain ⟨y1, a1⟩ := HO.out.int HG.out (HJ.out.ints 1 (by omega))
       obtain ⟨y2, a2⟩ := HO.out.int HG.out (HJ.out.ints 2 (by omega))
       obtain ⟨y3, a3⟩ := HO.out.int HG.out (HJ.out.ints 3 (by omega))
       obtain ⟨y4, a4⟩ := HO.out.int HG.out (HJ.out.ints 4 (by omega))
       obtain ⟨y5, a5, i5⟩ := HO.out.ints HG.out HJ.out.args
       obtain ⟨y6, a6, i6⟩ := HO.out.ints HG.out HJ.out.rets
       have a0 : w4.cell? ⟨g, m * 7, none⟩ = _ := a0
       obtain ⟨B5, p5, d5, rfl, _⟩ := id i5
       obtain ⟨B6, p6, d6, rfl, _⟩ := id i6
       have J5 := Lib.hid i5
       have J6 := Lib.hid i6
       clear i5 i6
       go_wp2_with (first | (refine put_ins (W := W) (lo := lo) (w0 := w0) size_ins rfl rfl (.tmp 118) (.tmp 117) rfl (g := g) (i := q * 7) (by first | rfl | (simp [Act.eval])) rfl HO.out HG.out HI.out J5.out J6.out ?_; intro w5 hs5 hf5; have HS5 := Lib.hid hs5; have HBX5 := Lib.hid ((hf5 N HNW.out).trans HBY.out); have HBZ5 := Lib.hid ((hf5 X HNX.out).trans HBZ.out); clear hs5 hf5 HO HBY HBZ a0 a1 a2 a3 a4 a5 a6; have a0 := blk_cell HBZ5.out 0; have a1 := blk_cell HBZ5.out 1; have a2 := blk_cell HBZ5.out 2; have a3 := blk_cell HBZ5.out 3; have a4 := blk_cell HBZ5.out 4; have a5 := blk_cell HBZ5.out 5; have a6 := blk_cell HBZ5.out 6; simp only [List.getElem?_toArray, List.getElem?_cons_succ, List.getElem?_cons_zero] at a0 a1 a2 a3 a4 a5 a6) | (refine put_ins (W := W) (lo := lo) (w0 := w0) size_ins rfl rfl (.tmp 126) (.tmp 125) rfl (g := g) (i := m * 7) (by first | rfl | (simp [Act.eval])) rfl HS5.out HG.out HJ.out I5.out I6.out ?_; intro w6 hs6 hf6; have HS6 := Lib.hid hs6; have HBX6 := Lib.hid ((hf6 N HNW.out).trans HBX5.out); clear hs6 hf6 HS5 HBX5 HBZ5 a0 a1 a2 a3 a4 a5 a6))
       go_roundw
       case rel => exact ⟨q + 1, by omega, by go_num, HS6.out, HBX6.out⟩
       case measure => simp [intOf]; omega
      ·go_wp2_with fail
       go_roundw
       case rel => exact ⟨j + 1, by omega, by go_num, HS.out, HBX.out⟩
       case measure => simp [intOf]; omega
  ·obtain rfl : j = n := by omega
   go_wp2_with fail
   refine bodyPost_end (results_none rfl _ _ _) rfl ⟨rfl, HS.out⟩
end Go.Proofs.YtcbcacbbnojdjaaGreatDoor
