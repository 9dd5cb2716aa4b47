/-
 Part F of what the law's proof needs: walks of the program's functions and the plain laws of what they tell. No condition.
-/
import Derived.Test.YtcbcacbbnojdjaaGreatDoorMgD
import Derived.Test.YtcbcacbbnojdjaaGreatDoorMgE
import Derived.Defers
import Derived.Recover
namespace Go.Proofs.YtcbcacbbnojdjaaGreatDoor
open Go.RowKit Go.Proofs.YtcbcacbbnojdjaaGreatDoorW.PrintWords Go.Proofs.YtcbcacbbnojdjaaGreatDoor.PSolveFunctions
set_option linter.unusedVariables false
set_option linter.unusedSimpArgs false
theorem runTo_before {σ : Type} {step : σ → Nat → Except Int σ} {s r : σ} {k : Nat} (h : runTo step s k = .ok r) : ∀ m, m < k → ∃ s' s'', runTo step s m = .ok s' ∧ step s' m = .ok s'' := by
 induction k generalizing r with
 | zero => intro m hm; omega
 | succ k ih =>
  intro m hm
  cases hk : runTo step s k with
  | error e => rw [runTo, hk] at h; cases h
  | ok s1 =>
   by_cases he : m = k
   ·subst he
    rw [runTo_succ hk] at h
    exact ⟨s1, r, hk, h⟩
   ·exact ih hk m (by omega)
theorem table_call : ∀ k j, k < 18 → j < (table.getD k []).length → ((table.getD k []).getD j .i = .A ∨ (table.getD k []).getD j .i = .B) → 0 < j ∧ (table.getD k []).getD 0 .i = .F := by
 have H : ∀ k, k < 18 → ∀ j, j < 3 → ((table.getD k []).getD j .i = .A ∨ (table.getD k []).getD j .i = .B) → 0 < j ∧ (table.getD k []).getD 0 .i = .F := by decide
 intro k j hk hj
 have h3 := table_short k
 exact H k hk j (by omega)
theorem parts_call {G : Int} {fs : List Fun} {f : Fun} {x : Ins} {n : Int} {j : Nat} (hk : x.f0.toNat < 18) (hj : j < (table.getD x.f0.toNat []).length)
  (h : runTo (fun _ j => askQ G fs f x n ((table.getD x.f0.toNat []).getD j .i)) () j = .ok ()) (hp : (table.getD x.f0.toNat []).getD j .i = .A ∨ (table.getD x.f0.toNat []).getD j .i = .B) : 0 ≤ x.f4 ∧ x.f4 < fs.length := by
 obtain ⟨h0, hF⟩ := table_call _ j hk hj hp
 obtain ⟨s', s'', _, hs⟩ := runTo_before h 0 h0
 simp only [hF, askQ, need] at hs
 split at hs
 ·rename_i hd; simpa using hd
 ·cases hs
def Asks (w : World) (a : Nat) (q p : Addr) (n : Int) (r : Except Int Unit) (v : Value) : Prop :=
 (∃ c, v = .func (.func 198) #[] #[.pointer (some ⟨c, 0, none⟩)] ∧ Calls Tryz.prog 198 #[.pointer (some ⟨a, 0, none⟩), .pointer (some q), .pointer (some p), .int .i64 n, .pointer (some ⟨c, 0, none⟩)] w fun e w' => e = ends r ∧ Drawn0 w w') ∨
 (v = .func (.func 175) #[] #[] ∧ Calls Tryz.prog 175 #[.pointer (some ⟨a, 0, none⟩), .pointer (some q), .pointer (some p), .int .i64 n] w fun e w' => e = ends r ∧ Drawn0 w w') ∨
 (∃ b0 b1 b2, v = .func (.func 204) #[] #[.pointer (some ⟨b0, 0, none⟩), .pointer (some ⟨b1, 0, none⟩), .pointer (some ⟨b2, 0, none⟩)] ∧ Calls Tryz.prog 204 #[.pointer (some ⟨a, 0, none⟩), .pointer (some q), .pointer (some p), .int .i64 n, .pointer (some ⟨b0, 0, none⟩), .pointer (some ⟨b1, 0, none⟩), .pointer (some ⟨b2, 0, none⟩)] w fun e w' => e = ends r ∧ Drawn0 w w') ∨
 (∃ b0 b1, v = .func (.func 205) #[] #[.pointer (some ⟨b0, 0, none⟩), .pointer (some ⟨b1, 0, none⟩)] ∧ Calls Tryz.prog 205 #[.pointer (some ⟨a, 0, none⟩), .pointer (some q), .pointer (some p), .int .i64 n, .pointer (some ⟨b0, 0, none⟩), .pointer (some ⟨b1, 0, none⟩)] w fun e w' => e = ends r ∧ Drawn0 w w')
theorem int_any (a b c d : Value) (w : World) : Calls Tryz.prog 175 #[a, b, c, d] w fun e w' => e = .returned (.tuple #[]) ∧ w' = w := by
 go_enter Tryz.func175, Tryz.ntmps175
 go_wp2_with fail
 go_end0
 exact ⟨rfl, rfl⟩
theorem drawn_one (w : World) : Drawn0 w w.drew := ⟨⟨1, rfl⟩⟩
theorem asks_any (a : Nat) (q p : Addr) (G : Int) (A : Option Addr) (c : Nat) (fs : List Fun) (f : Fun) (v2 : Value) (l : Int) (x : Ins) (A5 : Option Addr) (c5 : Nat) (A6 : Option Addr) (c6 : Nat) (n : Int) (w : World) (pt : Part) (v : Value) (hI : IsAsk w pt v)
  (hb : AskerAt w a (.int .i64 G) (.slice A fs.length c) v2 l) (hC : k66.C w A fs.length fs) (q1 : w.cell? ⟨q.block, q.off + 1, none⟩ = some (.int .i64 f.f1)) (q2 : w.cell? ⟨q.block, q.off + 2, none⟩ = some (.int .i64 f.f2)) (hx : InsAt w p x A5 c5 A6 c6)
  (h5 : (Kd.int .i64).C w A5 x.f5.length x.f5) (h6 : (Kd.int .i64).C w A6 x.f6.length x.f6) (l5 : x.f5.length ≤ 2147483647) (l6 : x.f6.length ≤ 2147483647) (hn : pt = .A ∨ pt = .B → 0 ≤ x.f4 ∧ x.f4 < fs.length) : Asks w a q p n (askQ G fs f x n pt) v := by
 have h4 : w.cell? ⟨a, 4, none⟩ = some (.int .i64 0) := blk_cell hb 4
 have h0 : w.cell? ⟨a, 0, none⟩ = some (.int .i64 G) := blk_cell hb 0
 have h1 : w.cell? ⟨a, 1, none⟩ = some (.slice A fs.length c) := blk_cell hb 1
 cases pt with
 | R =>
  obtain ⟨b, rfl, hc⟩ := hI
  refine .inl ⟨b, rfl, (varR_any a b q p n x.f1 f.f2 w h4 hc q2 hx.e1).mono ?_⟩
  rintro e w1 ⟨rfl, rfl⟩
  exact ⟨by rw [askQ, ends_need]; rfl, Drawn0.refl _⟩
 | S =>
  obtain ⟨b, rfl, hc⟩ := hI
  refine .inl ⟨b, rfl, (varS_any a b q p n x.f2 f.f2 w h4 hc q2 hx.e2).mono ?_⟩
  rintro e w1 ⟨rfl, rfl⟩
  exact ⟨by rw [askQ, ends_need]; rfl, Drawn0.refl _⟩
 | T =>
  obtain ⟨b, rfl, hc⟩ := hI
  refine .inl ⟨b, rfl, (varT_any a b q p n x.f3 f.f2 w h4 hc q2 hx.e3).mono ?_⟩
  rintro e w1 ⟨rfl, rfl⟩
  exact ⟨by rw [askQ, ends_need]; rfl, Drawn0.refl _⟩
 | i =>
  subst hI
  refine .inr (.inl ⟨rfl, (int_any _ _ _ _ w).mono ?_⟩)
  rintro e w1 ⟨rfl, rfl⟩
  exact ⟨rfl, Drawn0.refl _⟩
 | c =>
  obtain ⟨b0, b1, b2, rfl, k0, k1, k2⟩ := hI
  refine .inr (.inr (.inl ⟨b0, b1, b2, rfl, (belowFields_any a b0 b1 b2 q p n 1 17 x.f4 9 w h4 k0 k1 k2 hx.e4 (endFields_any _ (.int .i64 n) w.drew)).mono ?_⟩))
  rintro e w1 ⟨rfl, rfl⟩
  exact ⟨by rw [askQ, ends_need], drawn_one _⟩
 | f =>
  obtain ⟨b0, b1, b2, rfl, k0, k1, k2⟩ := hI
  refine .inr (.inr (.inl ⟨b0, b1, b2, rfl, (belowField_any a b0 b1 b2 q p n 0 17 x.f4 8 w h4 k0 k1 k2 hx.e4 (endField_any _ (.int .i64 n) w.drew)).mono ?_⟩))
  rintro e w1 ⟨rfl, rfl⟩
  exact ⟨by rw [askQ, ends_need], drawn_one _⟩
 | g =>
  obtain ⟨b0, b1, b2, rfl, k0, k1, k2⟩ := hI
  refine .inr (.inr (.inl ⟨b0, b1, b2, rfl, (belowGlobal_any a b0 b1 b2 q p n 0 18 x.f4 G w h4 k0 k1 k2 hx.e4 (endGlobal_any a (.int .i64 n) G w.drew h0)).mono ?_⟩))
  rintro e w1 ⟨rfl, rfl⟩
  exact ⟨by rw [askQ, ends_need], drawn_one _⟩
 | F =>
  obtain ⟨b0, b1, b2, rfl, k0, k1, k2⟩ := hI
  refine .inr (.inr (.inl ⟨b0, b1, b2, rfl, (belowFunction_any a b0 b1 b2 q p n 0 14 x.f4 fs.length w h4 k0 k1 k2 hx.e4 (endFunction_any a (.int .i64 n) A fs.length c w.drew h1)).mono ?_⟩))
  rintro e w1 ⟨rfl, rfl⟩
  exact ⟨by rw [askQ, ends_need], drawn_one _⟩
 | J =>
  obtain ⟨b0, b1, b2, rfl, k0, k1, k2⟩ := hI
  refine .inr (.inr (.inl ⟨b0, b1, b2, rfl, (belowJump_any a b0 b1 b2 q p n 0 16 x.f4 n w h4 k0 k1 k2 hx.e4 (endJump_any _ (.int .i64 n) w.drew)).mono ?_⟩))
  rintro e w1 ⟨rfl, rfl⟩
  exact ⟨by rw [askQ, ends_need], drawn_one _⟩
 | A =>
  obtain ⟨b0, b1, rfl, k0, k1⟩ := hI
  obtain ⟨n0, n1⟩ := hn (.inl rfl)
  exact .inr (.inr (.inr ⟨b0, b1, rfl, listA_any a b0 b1 q p n _ f A5 c5 x.f5 w h4 k0 k1 q2 hx.e5 h5 l5 (wantedA_any a q p A c fs x.f4 w h1 hC hx.e4 n0 n1)⟩))
 | B =>
  obtain ⟨b0, b1, rfl, k0, k1⟩ := hI
  obtain ⟨n0, n1⟩ := hn (.inr rfl)
  exact .inr (.inr (.inr ⟨b0, b1, rfl, listB_any a b0 b1 q p n _ f A6 c6 x.f6 w h4 k0 k1 q2 hx.e6 h6 l6 (wantedB_any a q p A c fs x.f4 w h1 hC hx.e4 n0 n1)⟩))
 | V =>
  obtain ⟨b0, b1, rfl, k0, k1⟩ := hI
  exact .inr (.inr (.inr ⟨b0, b1, rfl, listV_any a b0 b1 q p n f.f1 f A5 c5 x.f5 w h4 k0 k1 q2 hx.e5 h5 l5 ((wantedV_any ⟨a, 0, none⟩ q p f.f1 w q1).mono (by rintro e w1 ⟨rfl, rfl⟩; exact ⟨rfl, Drawn0.refl _⟩))⟩))
def BoxAt (w : World) (g : Nat) (p : Part) : Prop :=
 ∃ fa ca fp cp ft ct, w.heap[g]? = some (.cells #[.int .i64 p.mask, .func fa #[] ca, .func fp #[] cp, .func ft #[] ct] 208 (0, 0)) ∧ IsAsk w p (.func fa #[] ca)
theorem BoxAt.of {w w1 : World} {g : Nat} {p : Part} (h : BoxAt w g p) (hb : Below w.heap.size w w1) : BoxAt w1 g p := by
 obtain ⟨fa, ca, fp, cp, ft, ct, h, k⟩ := h
 exact ⟨fa, ca, fp, cp, ft, ct, (hb.block g (blk_lt h)).trans h, k.of (below_cells hb)⟩
theorem box_new {w : World} {p : Part} {fa ca fp cp ft ct} (h : IsAsk w p (.func fa #[] ca)) : BoxAt (w.alloc (.cells #[.int .i64 p.mask, .func fa #[] ca, .func fp #[] cp, .func ft #[] ct] 208)) w.heap.size p :=
 ⟨fa, ca, fp, cp, ft, ct, alloc_new _ _, h.of (below_cells (below1 _ _))⟩
theorem row1 {w : World} {p0 : Part} {a0 : Fn} {x0 : Array Value} {b0 : Fn} {y0 : Array Value} {c0 : Fn} {z0 : Array Value} (h0 : IsAsk w p0 (.func a0 #[] x0)) : RowAt (w.alloc (.cells #[.int .i64 (Part.mask p0), .func a0 #[] x0, .func b0 #[] y0, .func c0 #[] z0] 208)) w.heap.size [p0] := by
 have hk := alloc_new w (.cells #[.int .i64 (Part.mask p0), .func a0 #[] x0, .func b0 #[] y0, .func c0 #[] z0] 208)
 refine ⟨fun j hj => ?_⟩
 have hj' : j = 0 := by simp at hj; omega
 rcases hj' with rfl
 ·exact ⟨a0, x0, b0, y0, c0, z0, blk_cell hk 0, blk_cell hk 1, blk_cell hk 2, blk_cell hk 3, h0.of (below_cells (below1 _ _))⟩
theorem row2 {w : World} {p0 p1 : Part} {a0 : Fn} {x0 : Array Value} {b0 : Fn} {y0 : Array Value} {c0 : Fn} {z0 : Array Value} {a1 : Fn} {x1 : Array Value} {b1 : Fn} {y1 : Array Value} {c1 : Fn} {z1 : Array Value} (h0 : IsAsk w p0 (.func a0 #[] x0)) (h1 : IsAsk w p1 (.func a1 #[] x1)) : RowAt (w.alloc (.cells #[.int .i64 (Part.mask p0), .func a0 #[] x0, .func b0 #[] y0, .func c0 #[] z0, .int .i64 (Part.mask p1), .func a1 #[] x1, .func b1 #[] y1, .func c1 #[] z1] 208)) w.heap.size [p0, p1] := by
 have hk := alloc_new w (.cells #[.int .i64 (Part.mask p0), .func a0 #[] x0, .func b0 #[] y0, .func c0 #[] z0, .int .i64 (Part.mask p1), .func a1 #[] x1, .func b1 #[] y1, .func c1 #[] z1] 208)
 refine ⟨fun j hj => ?_⟩
 have hj' : j = 0 ∨ j = 1 := by simp at hj; omega
 rcases hj' with rfl | rfl
 ·exact ⟨a0, x0, b0, y0, c0, z0, blk_cell hk 0, blk_cell hk 1, blk_cell hk 2, blk_cell hk 3, h0.of (below_cells (below1 _ _))⟩
 ·exact ⟨a1, x1, b1, y1, c1, z1, blk_cell hk 4, blk_cell hk 5, blk_cell hk 6, blk_cell hk 7, h1.of (below_cells (below1 _ _))⟩
theorem row3 {w : World} {p0 p1 p2 : Part} {a0 : Fn} {x0 : Array Value} {b0 : Fn} {y0 : Array Value} {c0 : Fn} {z0 : Array Value} {a1 : Fn} {x1 : Array Value} {b1 : Fn} {y1 : Array Value} {c1 : Fn} {z1 : Array Value} {a2 : Fn} {x2 : Array Value} {b2 : Fn} {y2 : Array Value} {c2 : Fn} {z2 : Array Value} (h0 : IsAsk w p0 (.func a0 #[] x0)) (h1 : IsAsk w p1 (.func a1 #[] x1)) (h2 : IsAsk w p2 (.func a2 #[] x2)) : RowAt (w.alloc (.cells #[.int .i64 (Part.mask p0), .func a0 #[] x0, .func b0 #[] y0, .func c0 #[] z0, .int .i64 (Part.mask p1), .func a1 #[] x1, .func b1 #[] y1, .func c1 #[] z1, .int .i64 (Part.mask p2), .func a2 #[] x2, .func b2 #[] y2, .func c2 #[] z2] 208)) w.heap.size [p0, p1, p2] := by
 have hk := alloc_new w (.cells #[.int .i64 (Part.mask p0), .func a0 #[] x0, .func b0 #[] y0, .func c0 #[] z0, .int .i64 (Part.mask p1), .func a1 #[] x1, .func b1 #[] y1, .func c1 #[] z1, .int .i64 (Part.mask p2), .func a2 #[] x2, .func b2 #[] y2, .func c2 #[] z2] 208)
 refine ⟨fun j hj => ?_⟩
 have hj' : j = 0 ∨ j = 1 ∨ j = 2 := by simp at hj; omega
 rcases hj' with rfl | rfl | rfl
 ·exact ⟨a0, x0, b0, y0, c0, z0, blk_cell hk 0, blk_cell hk 1, blk_cell hk 2, blk_cell hk 3, h0.of (below_cells (below1 _ _))⟩
 ·exact ⟨a1, x1, b1, y1, c1, z1, blk_cell hk 4, blk_cell hk 5, blk_cell hk 6, blk_cell hk 7, h1.of (below_cells (below1 _ _))⟩
 ·exact ⟨a2, x2, b2, y2, c2, z2, blk_cell hk 8, blk_cell hk 9, blk_cell hk 10, blk_cell hk 11, h2.of (below_cells (below1 _ _))⟩
set_option maxRecDepth 100000 in
set_option maxHeartbeats 6400000 in
theorem operations_any (w : World) : Calls Tryz.prog 141 #[] w fun e w' => ∃ tg tc, e = .returned (.slice (some ⟨tg, 0, none⟩) 18 tc) ∧ TableAt w' tg ∧ Below w.heap.size w w' := by
 have hmf : ∀ (fn : Fn) (first cap : Array Value) (w : World), (Instr.makeFunc fn first cap).run Tryz.prog w = .ok (.func fn first cap) w := fun _ _ _ _ => rfl
 go_enter Tryz.func141, Tryz.ntmps141
 go_wp2_with fail
 refine (makeR _).mono ?_
 rintro e w1 ⟨v, rfl, ⟨fa1, ca1, fp1, cp1, ft1, ct1, rfl, hA⟩, hb⟩
 have N1 := Lib.hid (box_new (fp := fp1) (cp := cp1) (ft := ft1) (ct := ct1) hA)
 have hb' := hb.trans ((below1 w1 (.cells #[.int .i64 (Part.R).mask, .func fa1 #[] ca1, .func fp1 #[] cp1, .func ft1 #[] ct1] 208)).mono hb.size)
 have HB := Lib.hid hb'
 clear hA hb hb'
 go_wp2_with fail
 refine (makeS _).mono ?_
 rintro e w2 ⟨v, rfl, ⟨fa2, ca2, fp2, cp2, ft2, ct2, rfl, hA⟩, hb⟩
 have N2 := Lib.hid (box_new (fp := fp2) (cp := cp2) (ft := ft2) (ct := ct2) hA)
 have hb' := hb.trans ((below1 w2 (.cells #[.int .i64 (Part.S).mask, .func fa2 #[] ca2, .func fp2 #[] cp2, .func ft2 #[] ct2] 208)).mono hb.size)
 replace N1 := Lib.hid (N1.out.of hb')
 replace HB := Lib.hid (HB.out.trans (hb'.mono HB.out.size))
 clear hA hb hb'
 go_wp2_with fail
 refine (makeT _).mono ?_
 rintro e w3 ⟨v, rfl, ⟨fa3, ca3, fp3, cp3, ft3, ct3, rfl, hA⟩, hb⟩
 have N3 := Lib.hid (box_new (fp := fp3) (cp := cp3) (ft := ft3) (ct := ct3) hA)
 have hb' := hb.trans ((below1 w3 (.cells #[.int .i64 (Part.T).mask, .func fa3 #[] ca3, .func fp3 #[] cp3, .func ft3 #[] ct3] 208)).mono hb.size)
 replace N1 := Lib.hid (N1.out.of hb')
 replace N2 := Lib.hid (N2.out.of hb')
 replace HB := Lib.hid (HB.out.trans (hb'.mono HB.out.size))
 clear hA hb hb'
 go_wp2_with fail
 refine (makei _).mono ?_
 rintro e w4 ⟨v, rfl, ⟨fa4, ca4, fp4, cp4, ft4, ct4, rfl, hA⟩, hb⟩
 have N4 := Lib.hid (box_new (fp := fp4) (cp := cp4) (ft := ft4) (ct := ct4) hA)
 have hb' := hb.trans ((below1 w4 (.cells #[.int .i64 (Part.i).mask, .func fa4 #[] ca4, .func fp4 #[] cp4, .func ft4 #[] ct4] 208)).mono hb.size)
 replace N1 := Lib.hid (N1.out.of hb')
 replace N2 := Lib.hid (N2.out.of hb')
 replace N3 := Lib.hid (N3.out.of hb')
 replace HB := Lib.hid (HB.out.trans (hb'.mono HB.out.size))
 clear hA hb hb'
 go_wp2_with fail
 refine (makec _).mono ?_
 rintro e w5 ⟨v, rfl, ⟨fa5, ca5, fp5, cp5, ft5, ct5, rfl, hA⟩, hb⟩
 have N5 := Lib.hid (box_new (fp := fp5) (cp := cp5) (ft := ft5) (ct := ct5) hA)
 have hb' := hb.trans ((below1 w5 (.cells #[.int .i64 (Part.c).mask, .func fa5 #[] ca5, .func fp5 #[] cp5, .func ft5 #[] ct5] 208)).mono hb.size)
 replace N1 := Lib.hid (N1.out.of hb')
 replace N2 := Lib.hid (N2.out.of hb')
 replace N3 := Lib.hid (N3.out.of hb')
 replace N4 := Lib.hid (N4.out.of hb')
 replace HB := Lib.hid (HB.out.trans (hb'.mono HB.out.size))
 clear hA hb hb'
 go_wp2_with fail
 refine (makef _).mono ?_
 rintro e w6 ⟨v, rfl, ⟨fa6, ca6, fp6, cp6, ft6, ct6, rfl, hA⟩, hb⟩
 have N6 := Lib.hid (box_new (fp := fp6) (cp := cp6) (ft := ft6) (ct := ct6) hA)
 have hb' := hb.trans ((below1 w6 (.cells #[.int .i64 (Part.f).mask, .func fa6 #[] ca6, .func fp6 #[] cp6, .func ft6 #[] ct6] 208)).mono hb.size)
 replace N1 := Lib.hid (N1.out.of hb')
 replace N2 := Lib.hid (N2.out.of hb')
 replace N3 := Lib.hid (N3.out.of hb')
 replace N4 := Lib.hid (N4.out.of hb')
 replace N5 := Lib.hid (N5.out.of hb')
 replace HB := Lib.hid (HB.out.trans (hb'.mono HB.out.size))
 clear hA hb hb'
 go_wp2_with fail
 refine (makeg _).mono ?_
 rintro e w7 ⟨v, rfl, ⟨fa7, ca7, fp7, cp7, ft7, ct7, rfl, hA⟩, hb⟩
 have N7 := Lib.hid (box_new (fp := fp7) (cp := cp7) (ft := ft7) (ct := ct7) hA)
 have hb' := hb.trans ((below1 w7 (.cells #[.int .i64 (Part.g).mask, .func fa7 #[] ca7, .func fp7 #[] cp7, .func ft7 #[] ct7] 208)).mono hb.size)
 replace N1 := Lib.hid (N1.out.of hb')
 replace N2 := Lib.hid (N2.out.of hb')
 replace N3 := Lib.hid (N3.out.of hb')
 replace N4 := Lib.hid (N4.out.of hb')
 replace N5 := Lib.hid (N5.out.of hb')
 replace N6 := Lib.hid (N6.out.of hb')
 replace HB := Lib.hid (HB.out.trans (hb'.mono HB.out.size))
 clear hA hb hb'
 go_wp2_with fail
 refine (makeF _).mono ?_
 rintro e w8 ⟨v, rfl, ⟨fa8, ca8, fp8, cp8, ft8, ct8, rfl, hA⟩, hb⟩
 have N8 := Lib.hid (box_new (fp := fp8) (cp := cp8) (ft := ft8) (ct := ct8) hA)
 have hb' := hb.trans ((below1 w8 (.cells #[.int .i64 (Part.F).mask, .func fa8 #[] ca8, .func fp8 #[] cp8, .func ft8 #[] ct8] 208)).mono hb.size)
 replace N1 := Lib.hid (N1.out.of hb')
 replace N2 := Lib.hid (N2.out.of hb')
 replace N3 := Lib.hid (N3.out.of hb')
 replace N4 := Lib.hid (N4.out.of hb')
 replace N5 := Lib.hid (N5.out.of hb')
 replace N6 := Lib.hid (N6.out.of hb')
 replace N7 := Lib.hid (N7.out.of hb')
 replace HB := Lib.hid (HB.out.trans (hb'.mono HB.out.size))
 clear hA hb hb'
 go_wp2_with fail
 refine (makeJ _).mono ?_
 rintro e w9 ⟨v, rfl, ⟨fa9, ca9, fp9, cp9, ft9, ct9, rfl, hA⟩, hb⟩
 have N9 := Lib.hid (box_new (fp := fp9) (cp := cp9) (ft := ft9) (ct := ct9) hA)
 have hb' := hb.trans ((below1 w9 (.cells #[.int .i64 (Part.J).mask, .func fa9 #[] ca9, .func fp9 #[] cp9, .func ft9 #[] ct9] 208)).mono hb.size)
 replace N1 := Lib.hid (N1.out.of hb')
 replace N2 := Lib.hid (N2.out.of hb')
 replace N3 := Lib.hid (N3.out.of hb')
 replace N4 := Lib.hid (N4.out.of hb')
 replace N5 := Lib.hid (N5.out.of hb')
 replace N6 := Lib.hid (N6.out.of hb')
 replace N7 := Lib.hid (N7.out.of hb')
 replace N8 := Lib.hid (N8.out.of hb')
 replace HB := Lib.hid (HB.out.trans (hb'.mono HB.out.size))
 clear hA hb hb'
 go_wp2_with fail
 refine (makeA _).mono ?_
 rintro e w10 ⟨v, rfl, ⟨fa10, ca10, fp10, cp10, ft10, ct10, rfl, hA⟩, hb⟩
 have N10 := Lib.hid (box_new (fp := fp10) (cp := cp10) (ft := ft10) (ct := ct10) hA)
 have hb' := hb.trans ((below1 w10 (.cells #[.int .i64 (Part.A).mask, .func fa10 #[] ca10, .func fp10 #[] cp10, .func ft10 #[] ct10] 208)).mono hb.size)
 replace N1 := Lib.hid (N1.out.of hb')
 replace N2 := Lib.hid (N2.out.of hb')
 replace N3 := Lib.hid (N3.out.of hb')
 replace N4 := Lib.hid (N4.out.of hb')
 replace N5 := Lib.hid (N5.out.of hb')
 replace N6 := Lib.hid (N6.out.of hb')
 replace N7 := Lib.hid (N7.out.of hb')
 replace N8 := Lib.hid (N8.out.of hb')
 replace N9 := Lib.hid (N9.out.of hb')
 replace HB := Lib.hid (HB.out.trans (hb'.mono HB.out.size))
 clear hA hb hb'
 go_wp2_with fail
 refine (makeB _).mono ?_
 rintro e w11 ⟨v, rfl, ⟨fa11, ca11, fp11, cp11, ft11, ct11, rfl, hA⟩, hb⟩
 have N11 := Lib.hid (box_new (fp := fp11) (cp := cp11) (ft := ft11) (ct := ct11) hA)
 have hb' := hb.trans ((below1 w11 (.cells #[.int .i64 (Part.B).mask, .func fa11 #[] ca11, .func fp11 #[] cp11, .func ft11 #[] ct11] 208)).mono hb.size)
 replace N1 := Lib.hid (N1.out.of hb')
 replace N2 := Lib.hid (N2.out.of hb')
 replace N3 := Lib.hid (N3.out.of hb')
 replace N4 := Lib.hid (N4.out.of hb')
 replace N5 := Lib.hid (N5.out.of hb')
 replace N6 := Lib.hid (N6.out.of hb')
 replace N7 := Lib.hid (N7.out.of hb')
 replace N8 := Lib.hid (N8.out.of hb')
 replace N9 := Lib.hid (N9.out.of hb')
 replace N10 := Lib.hid (N10.out.of hb')
 replace HB := Lib.hid (HB.out.trans (hb'.mono HB.out.size))
 clear hA hb hb'
 go_wp2_with fail
 refine (makeV _).mono ?_
 rintro e w12 ⟨v, rfl, ⟨fa12, ca12, fp12, cp12, ft12, ct12, rfl, hA⟩, hb⟩
 have N12 := Lib.hid (box_new (fp := fp12) (cp := cp12) (ft := ft12) (ct := ct12) hA)
 have hb' := hb.trans ((below1 w12 (.cells #[.int .i64 (Part.V).mask, .func fa12 #[] ca12, .func fp12 #[] cp12, .func ft12 #[] ct12] 208)).mono hb.size)
 replace N1 := Lib.hid (N1.out.of hb')
 replace N2 := Lib.hid (N2.out.of hb')
 replace N3 := Lib.hid (N3.out.of hb')
 replace N4 := Lib.hid (N4.out.of hb')
 replace N5 := Lib.hid (N5.out.of hb')
 replace N6 := Lib.hid (N6.out.of hb')
 replace N7 := Lib.hid (N7.out.of hb')
 replace N8 := Lib.hid (N8.out.of hb')
 replace N9 := Lib.hid (N9.out.of hb')
 replace N10 := Lib.hid (N10.out.of hb')
 replace N11 := Lib.hid (N11.out.of hb')
 replace HB := Lib.hid (HB.out.trans (hb'.mono HB.out.size))
 clear hA hb hb'
 go_upto_region 13 with (fail)
 generalize hW : World.alloc _ _ = W0 at *
 clear hW
 generalize w1.heap.size = g1 at *
 generalize w2.heap.size = g2 at *
 generalize w3.heap.size = g3 at *
 generalize w4.heap.size = g4 at *
 generalize w5.heap.size = g5 at *
 generalize w6.heap.size = g6 at *
 generalize w7.heap.size = g7 at *
 generalize w8.heap.size = g8 at *
 generalize w9.heap.size = g9 at *
 generalize w10.heap.size = g10 at *
 generalize w11.heap.size = g11 at *
 generalize w12.heap.size = g12 at *
 go_step
 obtain ⟨a0, x0, b0, y0, c0, z0, hk0, hA0⟩ := N1.out
 have e00 := blk_cell hk0 0
 have e01 := blk_cell hk0 1
 have e02 := blk_cell hk0 2
 have e03 := blk_cell hk0 3
 simp only [List.getElem?_toArray, List.getElem?_cons_succ, List.getElem?_cons_zero] at e00 e01 e02 e03
 have HA0 := Lib.hid hA0
 clear hk0 hA0
 generalize hm0 : (Part.mask .R) = m0 at e00
 have HM0 := Lib.hid hm0
 clear hm0
 refine wpList_step (fun K hK => ?_)
 go_simp
 refine hK _ _ ?_
 clear hK K
 clear e00 e01 e02 e03
 obtain ⟨a1, x1, b1, y1, c1, z1, hk1, hA1⟩ := N4.out
 have e10 := blk_cell hk1 0
 have e11 := blk_cell hk1 1
 have e12 := blk_cell hk1 2
 have e13 := blk_cell hk1 3
 simp only [List.getElem?_toArray, List.getElem?_cons_succ, List.getElem?_cons_zero] at e10 e11 e12 e13
 have HA1 := Lib.hid hA1
 clear hk1 hA1
 generalize hm1 : (Part.mask .i) = m1 at e10
 have HM1 := Lib.hid hm1
 clear hm1
 refine wpList_step (fun K hK => ?_)
 go_simp
 refine hK _ _ ?_
 clear hK K
 clear e10 e11 e12 e13
 refine wpList_step (fun K hK => ?_)
 go_simp
 refine hK _ _ ?_
 clear hK K
 generalize hW : World.alloc _ _ = W1
 have hrow : RowAt W1 W0.heap.size [.R, .i] := by rw [← hW, ← HM0.out, ← HM1.out]; exact row2 HA0.out HA1.out
 have hb : Below W0.heap.size W0 W1 := by rw [← hW]; exact below1 _ _
 replace N1 := Lib.hid (N1.out.of hb)
 replace N2 := Lib.hid (N2.out.of hb)
 replace N3 := Lib.hid (N3.out.of hb)
 replace N4 := Lib.hid (N4.out.of hb)
 replace N5 := Lib.hid (N5.out.of hb)
 replace N6 := Lib.hid (N6.out.of hb)
 replace N7 := Lib.hid (N7.out.of hb)
 replace N8 := Lib.hid (N8.out.of hb)
 replace N9 := Lib.hid (N9.out.of hb)
 replace N10 := Lib.hid (N10.out.of hb)
 replace N11 := Lib.hid (N11.out.of hb)
 replace N12 := Lib.hid (N12.out.of hb)
 have R1 := Lib.hid hrow
 replace HB := Lib.hid (HB.out.trans (hb.mono HB.out.size))
 clear hW hrow hb HA0 HM0 HA1 HM1
 generalize W0.heap.size = h1 at *
 obtain ⟨a0, x0, b0, y0, c0, z0, hk0, hA0⟩ := N1.out
 have e00 := blk_cell hk0 0
 have e01 := blk_cell hk0 1
 have e02 := blk_cell hk0 2
 have e03 := blk_cell hk0 3
 simp only [List.getElem?_toArray, List.getElem?_cons_succ, List.getElem?_cons_zero] at e00 e01 e02 e03
 have HA0 := Lib.hid hA0
 clear hk0 hA0
 generalize hm0 : (Part.mask .R) = m0 at e00
 have HM0 := Lib.hid hm0
 clear hm0
 refine wpList_step (fun K hK => ?_)
 go_simp
 refine hK _ _ ?_
 clear hK K
 clear e00 e01 e02 e03
 obtain ⟨a1, x1, b1, y1, c1, z1, hk1, hA1⟩ := N2.out
 have e10 := blk_cell hk1 0
 have e11 := blk_cell hk1 1
 have e12 := blk_cell hk1 2
 have e13 := blk_cell hk1 3
 simp only [List.getElem?_toArray, List.getElem?_cons_succ, List.getElem?_cons_zero] at e10 e11 e12 e13
 have HA1 := Lib.hid hA1
 clear hk1 hA1
 generalize hm1 : (Part.mask .S) = m1 at e10
 have HM1 := Lib.hid hm1
 clear hm1
 refine wpList_step (fun K hK => ?_)
 go_simp
 refine hK _ _ ?_
 clear hK K
 clear e10 e11 e12 e13
 refine wpList_step (fun K hK => ?_)
 go_simp
 refine hK _ _ ?_
 clear hK K
 generalize hW : World.alloc _ _ = W2
 have hrow : RowAt W2 W1.heap.size [.R, .S] := by rw [← hW, ← HM0.out, ← HM1.out]; exact row2 HA0.out HA1.out
 have hb : Below W1.heap.size W1 W2 := by rw [← hW]; exact below1 _ _
 replace N1 := Lib.hid (N1.out.of hb)
 replace N2 := Lib.hid (N2.out.of hb)
 replace N3 := Lib.hid (N3.out.of hb)
 replace N4 := Lib.hid (N4.out.of hb)
 replace N5 := Lib.hid (N5.out.of hb)
 replace N6 := Lib.hid (N6.out.of hb)
 replace N7 := Lib.hid (N7.out.of hb)
 replace N8 := Lib.hid (N8.out.of hb)
 replace N9 := Lib.hid (N9.out.of hb)
 replace N10 := Lib.hid (N10.out.of hb)
 replace N11 := Lib.hid (N11.out.of hb)
 replace N12 := Lib.hid (N12.out.of hb)
 replace R1 := Lib.hid (R1.out.of (below_cells hb))
 have R2 := Lib.hid hrow
 replace HB := Lib.hid (HB.out.trans (hb.mono HB.out.size))
 clear hW hrow hb HA0 HM0 HA1 HM1
 generalize W1.heap.size = h2 at *
 obtain ⟨a0, x0, b0, y0, c0, z0, hk0, hA0⟩ := N1.out
 have e00 := blk_cell hk0 0
 have e01 := blk_cell hk0 1
 have e02 := blk_cell hk0 2
 have e03 := blk_cell hk0 3
 simp only [List.getElem?_toArray, List.getElem?_cons_succ, List.getElem?_cons_zero] at e00 e01 e02 e03
 have HA0 := Lib.hid hA0
 clear hk0 hA0
 generalize hm0 : (Part.mask .R) = m0 at e00
 have HM0 := Lib.hid hm0
 clear hm0
 refine wpList_step (fun K hK => ?_)
 go_simp
 refine hK _ _ ?_
 clear hK K
 clear e00 e01 e02 e03
 obtain ⟨a1, x1, b1, y1, c1, z1, hk1, hA1⟩ := N2.out
 have e10 := blk_cell hk1 0
 have e11 := blk_cell hk1 1
 have e12 := blk_cell hk1 2
 have e13 := blk_cell hk1 3
 simp only [List.getElem?_toArray, List.getElem?_cons_succ, List.getElem?_cons_zero] at e10 e11 e12 e13
 have HA1 := Lib.hid hA1
 clear hk1 hA1
 generalize hm1 : (Part.mask .S) = m1 at e10
 have HM1 := Lib.hid hm1
 clear hm1
 refine wpList_step (fun K hK => ?_)
 go_simp
 refine hK _ _ ?_
 clear hK K
 clear e10 e11 e12 e13
 obtain ⟨a2, x2, b2, y2, c2, z2, hk2, hA2⟩ := N3.out
 have e20 := blk_cell hk2 0
 have e21 := blk_cell hk2 1
 have e22 := blk_cell hk2 2
 have e23 := blk_cell hk2 3
 simp only [List.getElem?_toArray, List.getElem?_cons_succ, List.getElem?_cons_zero] at e20 e21 e22 e23
 have HA2 := Lib.hid hA2
 clear hk2 hA2
 generalize hm2 : (Part.mask .T) = m2 at e20
 have HM2 := Lib.hid hm2
 clear hm2
 refine wpList_step (fun K hK => ?_)
 go_simp
 refine hK _ _ ?_
 clear hK K
 clear e20 e21 e22 e23
 refine wpList_step (fun K hK => ?_)
 go_simp
 refine hK _ _ ?_
 clear hK K
 generalize hW : World.alloc _ _ = W3
 have hrow : RowAt W3 W2.heap.size [.R, .S, .T] := by rw [← hW, ← HM0.out, ← HM1.out, ← HM2.out]; exact row3 HA0.out HA1.out HA2.out
 have hb : Below W2.heap.size W2 W3 := by rw [← hW]; exact below1 _ _
 replace N1 := Lib.hid (N1.out.of hb)
 replace N2 := Lib.hid (N2.out.of hb)
 replace N3 := Lib.hid (N3.out.of hb)
 replace N4 := Lib.hid (N4.out.of hb)
 replace N5 := Lib.hid (N5.out.of hb)
 replace N6 := Lib.hid (N6.out.of hb)
 replace N7 := Lib.hid (N7.out.of hb)
 replace N8 := Lib.hid (N8.out.of hb)
 replace N9 := Lib.hid (N9.out.of hb)
 replace N10 := Lib.hid (N10.out.of hb)
 replace N11 := Lib.hid (N11.out.of hb)
 replace N12 := Lib.hid (N12.out.of hb)
 replace R1 := Lib.hid (R1.out.of (below_cells hb))
 replace R2 := Lib.hid (R2.out.of (below_cells hb))
 have R3 := Lib.hid hrow
 replace HB := Lib.hid (HB.out.trans (hb.mono HB.out.size))
 clear hW hrow hb HA0 HM0 HA1 HM1 HA2 HM2
 generalize W2.heap.size = h3 at *
 obtain ⟨a0, x0, b0, y0, c0, z0, hk0, hA0⟩ := N1.out
 have e00 := blk_cell hk0 0
 have e01 := blk_cell hk0 1
 have e02 := blk_cell hk0 2
 have e03 := blk_cell hk0 3
 simp only [List.getElem?_toArray, List.getElem?_cons_succ, List.getElem?_cons_zero] at e00 e01 e02 e03
 have HA0 := Lib.hid hA0
 clear hk0 hA0
 generalize hm0 : (Part.mask .R) = m0 at e00
 have HM0 := Lib.hid hm0
 clear hm0
 refine wpList_step (fun K hK => ?_)
 go_simp
 refine hK _ _ ?_
 clear hK K
 clear e00 e01 e02 e03
 obtain ⟨a1, x1, b1, y1, c1, z1, hk1, hA1⟩ := N2.out
 have e10 := blk_cell hk1 0
 have e11 := blk_cell hk1 1
 have e12 := blk_cell hk1 2
 have e13 := blk_cell hk1 3
 simp only [List.getElem?_toArray, List.getElem?_cons_succ, List.getElem?_cons_zero] at e10 e11 e12 e13
 have HA1 := Lib.hid hA1
 clear hk1 hA1
 generalize hm1 : (Part.mask .S) = m1 at e10
 have HM1 := Lib.hid hm1
 clear hm1
 refine wpList_step (fun K hK => ?_)
 go_simp
 refine hK _ _ ?_
 clear hK K
 clear e10 e11 e12 e13
 obtain ⟨a2, x2, b2, y2, c2, z2, hk2, hA2⟩ := N3.out
 have e20 := blk_cell hk2 0
 have e21 := blk_cell hk2 1
 have e22 := blk_cell hk2 2
 have e23 := blk_cell hk2 3
 simp only [List.getElem?_toArray, List.getElem?_cons_succ, List.getElem?_cons_zero] at e20 e21 e22 e23
 have HA2 := Lib.hid hA2
 clear hk2 hA2
 generalize hm2 : (Part.mask .T) = m2 at e20
 have HM2 := Lib.hid hm2
 clear hm2
 refine wpList_step (fun K hK => ?_)
 go_simp
 refine hK _ _ ?_
 clear hK K
 clear e20 e21 e22 e23
 refine wpList_step (fun K hK => ?_)
 go_simp
 refine hK _ _ ?_
 clear hK K
 generalize hW : World.alloc _ _ = W4
 have hrow : RowAt W4 W3.heap.size [.R, .S, .T] := by rw [← hW, ← HM0.out, ← HM1.out, ← HM2.out]; exact row3 HA0.out HA1.out HA2.out
 have hb : Below W3.heap.size W3 W4 := by rw [← hW]; exact below1 _ _
 replace N1 := Lib.hid (N1.out.of hb)
 replace N2 := Lib.hid (N2.out.of hb)
 replace N3 := Lib.hid (N3.out.of hb)
 replace N4 := Lib.hid (N4.out.of hb)
 replace N5 := Lib.hid (N5.out.of hb)
 replace N6 := Lib.hid (N6.out.of hb)
 replace N7 := Lib.hid (N7.out.of hb)
 replace N8 := Lib.hid (N8.out.of hb)
 replace N9 := Lib.hid (N9.out.of hb)
 replace N10 := Lib.hid (N10.out.of hb)
 replace N11 := Lib.hid (N11.out.of hb)
 replace N12 := Lib.hid (N12.out.of hb)
 replace R1 := Lib.hid (R1.out.of (below_cells hb))
 replace R2 := Lib.hid (R2.out.of (below_cells hb))
 replace R3 := Lib.hid (R3.out.of (below_cells hb))
 have R4 := Lib.hid hrow
 replace HB := Lib.hid (HB.out.trans (hb.mono HB.out.size))
 clear hW hrow hb HA0 HM0 HA1 HM1 HA2 HM2
 generalize W3.heap.size = h4 at *
 obtain ⟨a0, x0, b0, y0, c0, z0, hk0, hA0⟩ := N1.out
 have e00 := blk_cell hk0 0
 have e01 := blk_cell hk0 1
 have e02 := blk_cell hk0 2
 have e03 := blk_cell hk0 3
 simp only [List.getElem?_toArray, List.getElem?_cons_succ, List.getElem?_cons_zero] at e00 e01 e02 e03
 have HA0 := Lib.hid hA0
 clear hk0 hA0
 generalize hm0 : (Part.mask .R) = m0 at e00
 have HM0 := Lib.hid hm0
 clear hm0
 refine wpList_step (fun K hK => ?_)
 go_simp
 refine hK _ _ ?_
 clear hK K
 clear e00 e01 e02 e03
 obtain ⟨a1, x1, b1, y1, c1, z1, hk1, hA1⟩ := N2.out
 have e10 := blk_cell hk1 0
 have e11 := blk_cell hk1 1
 have e12 := blk_cell hk1 2
 have e13 := blk_cell hk1 3
 simp only [List.getElem?_toArray, List.getElem?_cons_succ, List.getElem?_cons_zero] at e10 e11 e12 e13
 have HA1 := Lib.hid hA1
 clear hk1 hA1
 generalize hm1 : (Part.mask .S) = m1 at e10
 have HM1 := Lib.hid hm1
 clear hm1
 refine wpList_step (fun K hK => ?_)
 go_simp
 refine hK _ _ ?_
 clear hK K
 clear e10 e11 e12 e13
 refine wpList_step (fun K hK => ?_)
 go_simp
 refine hK _ _ ?_
 clear hK K
 generalize hW : World.alloc _ _ = W5
 have hrow : RowAt W5 W4.heap.size [.R, .S] := by rw [← hW, ← HM0.out, ← HM1.out]; exact row2 HA0.out HA1.out
 have hb : Below W4.heap.size W4 W5 := by rw [← hW]; exact below1 _ _
 replace N1 := Lib.hid (N1.out.of hb)
 replace N2 := Lib.hid (N2.out.of hb)
 replace N3 := Lib.hid (N3.out.of hb)
 replace N4 := Lib.hid (N4.out.of hb)
 replace N5 := Lib.hid (N5.out.of hb)
 replace N6 := Lib.hid (N6.out.of hb)
 replace N7 := Lib.hid (N7.out.of hb)
 replace N8 := Lib.hid (N8.out.of hb)
 replace N9 := Lib.hid (N9.out.of hb)
 replace N10 := Lib.hid (N10.out.of hb)
 replace N11 := Lib.hid (N11.out.of hb)
 replace N12 := Lib.hid (N12.out.of hb)
 replace R1 := Lib.hid (R1.out.of (below_cells hb))
 replace R2 := Lib.hid (R2.out.of (below_cells hb))
 replace R3 := Lib.hid (R3.out.of (below_cells hb))
 replace R4 := Lib.hid (R4.out.of (below_cells hb))
 have R5 := Lib.hid hrow
 replace HB := Lib.hid (HB.out.trans (hb.mono HB.out.size))
 clear hW hrow hb HA0 HM0 HA1 HM1
 generalize W4.heap.size = h5 at *
 obtain ⟨a0, x0, b0, y0, c0, z0, hk0, hA0⟩ := N1.out
 have e00 := blk_cell hk0 0
 have e01 := blk_cell hk0 1
 have e02 := blk_cell hk0 2
 have e03 := blk_cell hk0 3
 simp only [List.getElem?_toArray, List.getElem?_cons_succ, List.getElem?_cons_zero] at e00 e01 e02 e03
 have HA0 := Lib.hid hA0
 clear hk0 hA0
 generalize hm0 : (Part.mask .R) = m0 at e00
 have HM0 := Lib.hid hm0
 clear hm0
 refine wpList_step (fun K hK => ?_)
 go_simp
 refine hK _ _ ?_
 clear hK K
 clear e00 e01 e02 e03
 obtain ⟨a1, x1, b1, y1, c1, z1, hk1, hA1⟩ := N5.out
 have e10 := blk_cell hk1 0
 have e11 := blk_cell hk1 1
 have e12 := blk_cell hk1 2
 have e13 := blk_cell hk1 3
 simp only [List.getElem?_toArray, List.getElem?_cons_succ, List.getElem?_cons_zero] at e10 e11 e12 e13
 have HA1 := Lib.hid hA1
 clear hk1 hA1
 generalize hm1 : (Part.mask .c) = m1 at e10
 have HM1 := Lib.hid hm1
 clear hm1
 refine wpList_step (fun K hK => ?_)
 go_simp
 refine hK _ _ ?_
 clear hK K
 clear e10 e11 e12 e13
 refine wpList_step (fun K hK => ?_)
 go_simp
 refine hK _ _ ?_
 clear hK K
 generalize hW : World.alloc _ _ = W6
 have hrow : RowAt W6 W5.heap.size [.R, .c] := by rw [← hW, ← HM0.out, ← HM1.out]; exact row2 HA0.out HA1.out
 have hb : Below W5.heap.size W5 W6 := by rw [← hW]; exact below1 _ _
 replace N1 := Lib.hid (N1.out.of hb)
 replace N2 := Lib.hid (N2.out.of hb)
 replace N3 := Lib.hid (N3.out.of hb)
 replace N4 := Lib.hid (N4.out.of hb)
 replace N5 := Lib.hid (N5.out.of hb)
 replace N6 := Lib.hid (N6.out.of hb)
 replace N7 := Lib.hid (N7.out.of hb)
 replace N8 := Lib.hid (N8.out.of hb)
 replace N9 := Lib.hid (N9.out.of hb)
 replace N10 := Lib.hid (N10.out.of hb)
 replace N11 := Lib.hid (N11.out.of hb)
 replace N12 := Lib.hid (N12.out.of hb)
 replace R1 := Lib.hid (R1.out.of (below_cells hb))
 replace R2 := Lib.hid (R2.out.of (below_cells hb))
 replace R3 := Lib.hid (R3.out.of (below_cells hb))
 replace R4 := Lib.hid (R4.out.of (below_cells hb))
 replace R5 := Lib.hid (R5.out.of (below_cells hb))
 have R6 := Lib.hid hrow
 replace HB := Lib.hid (HB.out.trans (hb.mono HB.out.size))
 clear hW hrow hb HA0 HM0 HA1 HM1
 generalize W5.heap.size = h6 at *
 obtain ⟨a0, x0, b0, y0, c0, z0, hk0, hA0⟩ := N1.out
 have e00 := blk_cell hk0 0
 have e01 := blk_cell hk0 1
 have e02 := blk_cell hk0 2
 have e03 := blk_cell hk0 3
 simp only [List.getElem?_toArray, List.getElem?_cons_succ, List.getElem?_cons_zero] at e00 e01 e02 e03
 have HA0 := Lib.hid hA0
 clear hk0 hA0
 generalize hm0 : (Part.mask .R) = m0 at e00
 have HM0 := Lib.hid hm0
 clear hm0
 refine wpList_step (fun K hK => ?_)
 go_simp
 refine hK _ _ ?_
 clear hK K
 clear e00 e01 e02 e03
 obtain ⟨a1, x1, b1, y1, c1, z1, hk1, hA1⟩ := N2.out
 have e10 := blk_cell hk1 0
 have e11 := blk_cell hk1 1
 have e12 := blk_cell hk1 2
 have e13 := blk_cell hk1 3
 simp only [List.getElem?_toArray, List.getElem?_cons_succ, List.getElem?_cons_zero] at e10 e11 e12 e13
 have HA1 := Lib.hid hA1
 clear hk1 hA1
 generalize hm1 : (Part.mask .S) = m1 at e10
 have HM1 := Lib.hid hm1
 clear hm1
 refine wpList_step (fun K hK => ?_)
 go_simp
 refine hK _ _ ?_
 clear hK K
 clear e10 e11 e12 e13
 obtain ⟨a2, x2, b2, y2, c2, z2, hk2, hA2⟩ := N6.out
 have e20 := blk_cell hk2 0
 have e21 := blk_cell hk2 1
 have e22 := blk_cell hk2 2
 have e23 := blk_cell hk2 3
 simp only [List.getElem?_toArray, List.getElem?_cons_succ, List.getElem?_cons_zero] at e20 e21 e22 e23
 have HA2 := Lib.hid hA2
 clear hk2 hA2
 generalize hm2 : (Part.mask .f) = m2 at e20
 have HM2 := Lib.hid hm2
 clear hm2
 refine wpList_step (fun K hK => ?_)
 go_simp
 refine hK _ _ ?_
 clear hK K
 clear e20 e21 e22 e23
 refine wpList_step (fun K hK => ?_)
 go_simp
 refine hK _ _ ?_
 clear hK K
 generalize hW : World.alloc _ _ = W7
 have hrow : RowAt W7 W6.heap.size [.R, .S, .f] := by rw [← hW, ← HM0.out, ← HM1.out, ← HM2.out]; exact row3 HA0.out HA1.out HA2.out
 have hb : Below W6.heap.size W6 W7 := by rw [← hW]; exact below1 _ _
 replace N1 := Lib.hid (N1.out.of hb)
 replace N2 := Lib.hid (N2.out.of hb)
 replace N3 := Lib.hid (N3.out.of hb)
 replace N4 := Lib.hid (N4.out.of hb)
 replace N5 := Lib.hid (N5.out.of hb)
 replace N6 := Lib.hid (N6.out.of hb)
 replace N7 := Lib.hid (N7.out.of hb)
 replace N8 := Lib.hid (N8.out.of hb)
 replace N9 := Lib.hid (N9.out.of hb)
 replace N10 := Lib.hid (N10.out.of hb)
 replace N11 := Lib.hid (N11.out.of hb)
 replace N12 := Lib.hid (N12.out.of hb)
 replace R1 := Lib.hid (R1.out.of (below_cells hb))
 replace R2 := Lib.hid (R2.out.of (below_cells hb))
 replace R3 := Lib.hid (R3.out.of (below_cells hb))
 replace R4 := Lib.hid (R4.out.of (below_cells hb))
 replace R5 := Lib.hid (R5.out.of (below_cells hb))
 replace R6 := Lib.hid (R6.out.of (below_cells hb))
 have R7 := Lib.hid hrow
 replace HB := Lib.hid (HB.out.trans (hb.mono HB.out.size))
 clear hW hrow hb HA0 HM0 HA1 HM1 HA2 HM2
 generalize W6.heap.size = h7 at *
 obtain ⟨a0, x0, b0, y0, c0, z0, hk0, hA0⟩ := N1.out
 have e00 := blk_cell hk0 0
 have e01 := blk_cell hk0 1
 have e02 := blk_cell hk0 2
 have e03 := blk_cell hk0 3
 simp only [List.getElem?_toArray, List.getElem?_cons_succ, List.getElem?_cons_zero] at e00 e01 e02 e03
 have HA0 := Lib.hid hA0
 clear hk0 hA0
 generalize hm0 : (Part.mask .R) = m0 at e00
 have HM0 := Lib.hid hm0
 clear hm0
 refine wpList_step (fun K hK => ?_)
 go_simp
 refine hK _ _ ?_
 clear hK K
 clear e00 e01 e02 e03
 obtain ⟨a1, x1, b1, y1, c1, z1, hk1, hA1⟩ := N2.out
 have e10 := blk_cell hk1 0
 have e11 := blk_cell hk1 1
 have e12 := blk_cell hk1 2
 have e13 := blk_cell hk1 3
 simp only [List.getElem?_toArray, List.getElem?_cons_succ, List.getElem?_cons_zero] at e10 e11 e12 e13
 have HA1 := Lib.hid hA1
 clear hk1 hA1
 generalize hm1 : (Part.mask .S) = m1 at e10
 have HM1 := Lib.hid hm1
 clear hm1
 refine wpList_step (fun K hK => ?_)
 go_simp
 refine hK _ _ ?_
 clear hK K
 clear e10 e11 e12 e13
 obtain ⟨a2, x2, b2, y2, c2, z2, hk2, hA2⟩ := N6.out
 have e20 := blk_cell hk2 0
 have e21 := blk_cell hk2 1
 have e22 := blk_cell hk2 2
 have e23 := blk_cell hk2 3
 simp only [List.getElem?_toArray, List.getElem?_cons_succ, List.getElem?_cons_zero] at e20 e21 e22 e23
 have HA2 := Lib.hid hA2
 clear hk2 hA2
 generalize hm2 : (Part.mask .f) = m2 at e20
 have HM2 := Lib.hid hm2
 clear hm2
 refine wpList_step (fun K hK => ?_)
 go_simp
 refine hK _ _ ?_
 clear hK K
 clear e20 e21 e22 e23
 refine wpList_step (fun K hK => ?_)
 go_simp
 refine hK _ _ ?_
 clear hK K
 generalize hW : World.alloc _ _ = W8
 have hrow : RowAt W8 W7.heap.size [.R, .S, .f] := by rw [← hW, ← HM0.out, ← HM1.out, ← HM2.out]; exact row3 HA0.out HA1.out HA2.out
 have hb : Below W7.heap.size W7 W8 := by rw [← hW]; exact below1 _ _
 replace N1 := Lib.hid (N1.out.of hb)
 replace N2 := Lib.hid (N2.out.of hb)
 replace N3 := Lib.hid (N3.out.of hb)
 replace N4 := Lib.hid (N4.out.of hb)
 replace N5 := Lib.hid (N5.out.of hb)
 replace N6 := Lib.hid (N6.out.of hb)
 replace N7 := Lib.hid (N7.out.of hb)
 replace N8 := Lib.hid (N8.out.of hb)
 replace N9 := Lib.hid (N9.out.of hb)
 replace N10 := Lib.hid (N10.out.of hb)
 replace N11 := Lib.hid (N11.out.of hb)
 replace N12 := Lib.hid (N12.out.of hb)
 replace R1 := Lib.hid (R1.out.of (below_cells hb))
 replace R2 := Lib.hid (R2.out.of (below_cells hb))
 replace R3 := Lib.hid (R3.out.of (below_cells hb))
 replace R4 := Lib.hid (R4.out.of (below_cells hb))
 replace R5 := Lib.hid (R5.out.of (below_cells hb))
 replace R6 := Lib.hid (R6.out.of (below_cells hb))
 replace R7 := Lib.hid (R7.out.of (below_cells hb))
 have R8 := Lib.hid hrow
 replace HB := Lib.hid (HB.out.trans (hb.mono HB.out.size))
 clear hW hrow hb HA0 HM0 HA1 HM1 HA2 HM2
 generalize W7.heap.size = h8 at *
 obtain ⟨a0, x0, b0, y0, c0, z0, hk0, hA0⟩ := N1.out
 have e00 := blk_cell hk0 0
 have e01 := blk_cell hk0 1
 have e02 := blk_cell hk0 2
 have e03 := blk_cell hk0 3
 simp only [List.getElem?_toArray, List.getElem?_cons_succ, List.getElem?_cons_zero] at e00 e01 e02 e03
 have HA0 := Lib.hid hA0
 clear hk0 hA0
 generalize hm0 : (Part.mask .R) = m0 at e00
 have HM0 := Lib.hid hm0
 clear hm0
 refine wpList_step (fun K hK => ?_)
 go_simp
 refine hK _ _ ?_
 clear hK K
 clear e00 e01 e02 e03
 obtain ⟨a1, x1, b1, y1, c1, z1, hk1, hA1⟩ := N7.out
 have e10 := blk_cell hk1 0
 have e11 := blk_cell hk1 1
 have e12 := blk_cell hk1 2
 have e13 := blk_cell hk1 3
 simp only [List.getElem?_toArray, List.getElem?_cons_succ, List.getElem?_cons_zero] at e10 e11 e12 e13
 have HA1 := Lib.hid hA1
 clear hk1 hA1
 generalize hm1 : (Part.mask .g) = m1 at e10
 have HM1 := Lib.hid hm1
 clear hm1
 refine wpList_step (fun K hK => ?_)
 go_simp
 refine hK _ _ ?_
 clear hK K
 clear e10 e11 e12 e13
 refine wpList_step (fun K hK => ?_)
 go_simp
 refine hK _ _ ?_
 clear hK K
 generalize hW : World.alloc _ _ = W9
 have hrow : RowAt W9 W8.heap.size [.R, .g] := by rw [← hW, ← HM0.out, ← HM1.out]; exact row2 HA0.out HA1.out
 have hb : Below W8.heap.size W8 W9 := by rw [← hW]; exact below1 _ _
 replace N1 := Lib.hid (N1.out.of hb)
 replace N2 := Lib.hid (N2.out.of hb)
 replace N3 := Lib.hid (N3.out.of hb)
 replace N4 := Lib.hid (N4.out.of hb)
 replace N5 := Lib.hid (N5.out.of hb)
 replace N6 := Lib.hid (N6.out.of hb)
 replace N7 := Lib.hid (N7.out.of hb)
 replace N8 := Lib.hid (N8.out.of hb)
 replace N9 := Lib.hid (N9.out.of hb)
 replace N10 := Lib.hid (N10.out.of hb)
 replace N11 := Lib.hid (N11.out.of hb)
 replace N12 := Lib.hid (N12.out.of hb)
 replace R1 := Lib.hid (R1.out.of (below_cells hb))
 replace R2 := Lib.hid (R2.out.of (below_cells hb))
 replace R3 := Lib.hid (R3.out.of (below_cells hb))
 replace R4 := Lib.hid (R4.out.of (below_cells hb))
 replace R5 := Lib.hid (R5.out.of (below_cells hb))
 replace R6 := Lib.hid (R6.out.of (below_cells hb))
 replace R7 := Lib.hid (R7.out.of (below_cells hb))
 replace R8 := Lib.hid (R8.out.of (below_cells hb))
 have R9 := Lib.hid hrow
 replace HB := Lib.hid (HB.out.trans (hb.mono HB.out.size))
 clear hW hrow hb HA0 HM0 HA1 HM1
 generalize W8.heap.size = h9 at *
 obtain ⟨a0, x0, b0, y0, c0, z0, hk0, hA0⟩ := N2.out
 have e00 := blk_cell hk0 0
 have e01 := blk_cell hk0 1
 have e02 := blk_cell hk0 2
 have e03 := blk_cell hk0 3
 simp only [List.getElem?_toArray, List.getElem?_cons_succ, List.getElem?_cons_zero] at e00 e01 e02 e03
 have HA0 := Lib.hid hA0
 clear hk0 hA0
 generalize hm0 : (Part.mask .S) = m0 at e00
 have HM0 := Lib.hid hm0
 clear hm0
 refine wpList_step (fun K hK => ?_)
 go_simp
 refine hK _ _ ?_
 clear hK K
 clear e00 e01 e02 e03
 obtain ⟨a1, x1, b1, y1, c1, z1, hk1, hA1⟩ := N7.out
 have e10 := blk_cell hk1 0
 have e11 := blk_cell hk1 1
 have e12 := blk_cell hk1 2
 have e13 := blk_cell hk1 3
 simp only [List.getElem?_toArray, List.getElem?_cons_succ, List.getElem?_cons_zero] at e10 e11 e12 e13
 have HA1 := Lib.hid hA1
 clear hk1 hA1
 generalize hm1 : (Part.mask .g) = m1 at e10
 have HM1 := Lib.hid hm1
 clear hm1
 refine wpList_step (fun K hK => ?_)
 go_simp
 refine hK _ _ ?_
 clear hK K
 clear e10 e11 e12 e13
 refine wpList_step (fun K hK => ?_)
 go_simp
 refine hK _ _ ?_
 clear hK K
 generalize hW : World.alloc _ _ = W10
 have hrow : RowAt W10 W9.heap.size [.S, .g] := by rw [← hW, ← HM0.out, ← HM1.out]; exact row2 HA0.out HA1.out
 have hb : Below W9.heap.size W9 W10 := by rw [← hW]; exact below1 _ _
 replace N1 := Lib.hid (N1.out.of hb)
 replace N2 := Lib.hid (N2.out.of hb)
 replace N3 := Lib.hid (N3.out.of hb)
 replace N4 := Lib.hid (N4.out.of hb)
 replace N5 := Lib.hid (N5.out.of hb)
 replace N6 := Lib.hid (N6.out.of hb)
 replace N7 := Lib.hid (N7.out.of hb)
 replace N8 := Lib.hid (N8.out.of hb)
 replace N9 := Lib.hid (N9.out.of hb)
 replace N10 := Lib.hid (N10.out.of hb)
 replace N11 := Lib.hid (N11.out.of hb)
 replace N12 := Lib.hid (N12.out.of hb)
 replace R1 := Lib.hid (R1.out.of (below_cells hb))
 replace R2 := Lib.hid (R2.out.of (below_cells hb))
 replace R3 := Lib.hid (R3.out.of (below_cells hb))
 replace R4 := Lib.hid (R4.out.of (below_cells hb))
 replace R5 := Lib.hid (R5.out.of (below_cells hb))
 replace R6 := Lib.hid (R6.out.of (below_cells hb))
 replace R7 := Lib.hid (R7.out.of (below_cells hb))
 replace R8 := Lib.hid (R8.out.of (below_cells hb))
 replace R9 := Lib.hid (R9.out.of (below_cells hb))
 have R10 := Lib.hid hrow
 replace HB := Lib.hid (HB.out.trans (hb.mono HB.out.size))
 clear hW hrow hb HA0 HM0 HA1 HM1
 generalize W9.heap.size = h10 at *
 obtain ⟨a0, x0, b0, y0, c0, z0, hk0, hA0⟩ := N8.out
 have e00 := blk_cell hk0 0
 have e01 := blk_cell hk0 1
 have e02 := blk_cell hk0 2
 have e03 := blk_cell hk0 3
 simp only [List.getElem?_toArray, List.getElem?_cons_succ, List.getElem?_cons_zero] at e00 e01 e02 e03
 have HA0 := Lib.hid hA0
 clear hk0 hA0
 generalize hm0 : (Part.mask .F) = m0 at e00
 have HM0 := Lib.hid hm0
 clear hm0
 refine wpList_step (fun K hK => ?_)
 go_simp
 refine hK _ _ ?_
 clear hK K
 clear e00 e01 e02 e03
 obtain ⟨a1, x1, b1, y1, c1, z1, hk1, hA1⟩ := N10.out
 have e10 := blk_cell hk1 0
 have e11 := blk_cell hk1 1
 have e12 := blk_cell hk1 2
 have e13 := blk_cell hk1 3
 simp only [List.getElem?_toArray, List.getElem?_cons_succ, List.getElem?_cons_zero] at e10 e11 e12 e13
 have HA1 := Lib.hid hA1
 clear hk1 hA1
 generalize hm1 : (Part.mask .A) = m1 at e10
 have HM1 := Lib.hid hm1
 clear hm1
 refine wpList_step (fun K hK => ?_)
 go_simp
 refine hK _ _ ?_
 clear hK K
 clear e10 e11 e12 e13
 obtain ⟨a2, x2, b2, y2, c2, z2, hk2, hA2⟩ := N11.out
 have e20 := blk_cell hk2 0
 have e21 := blk_cell hk2 1
 have e22 := blk_cell hk2 2
 have e23 := blk_cell hk2 3
 simp only [List.getElem?_toArray, List.getElem?_cons_succ, List.getElem?_cons_zero] at e20 e21 e22 e23
 have HA2 := Lib.hid hA2
 clear hk2 hA2
 generalize hm2 : (Part.mask .B) = m2 at e20
 have HM2 := Lib.hid hm2
 clear hm2
 refine wpList_step (fun K hK => ?_)
 go_simp
 refine hK _ _ ?_
 clear hK K
 clear e20 e21 e22 e23
 refine wpList_step (fun K hK => ?_)
 go_simp
 refine hK _ _ ?_
 clear hK K
 generalize hW : World.alloc _ _ = W11
 have hrow : RowAt W11 W10.heap.size [.F, .A, .B] := by rw [← hW, ← HM0.out, ← HM1.out, ← HM2.out]; exact row3 HA0.out HA1.out HA2.out
 have hb : Below W10.heap.size W10 W11 := by rw [← hW]; exact below1 _ _
 replace N1 := Lib.hid (N1.out.of hb)
 replace N2 := Lib.hid (N2.out.of hb)
 replace N3 := Lib.hid (N3.out.of hb)
 replace N4 := Lib.hid (N4.out.of hb)
 replace N5 := Lib.hid (N5.out.of hb)
 replace N6 := Lib.hid (N6.out.of hb)
 replace N7 := Lib.hid (N7.out.of hb)
 replace N8 := Lib.hid (N8.out.of hb)
 replace N9 := Lib.hid (N9.out.of hb)
 replace N10 := Lib.hid (N10.out.of hb)
 replace N11 := Lib.hid (N11.out.of hb)
 replace N12 := Lib.hid (N12.out.of hb)
 replace R1 := Lib.hid (R1.out.of (below_cells hb))
 replace R2 := Lib.hid (R2.out.of (below_cells hb))
 replace R3 := Lib.hid (R3.out.of (below_cells hb))
 replace R4 := Lib.hid (R4.out.of (below_cells hb))
 replace R5 := Lib.hid (R5.out.of (below_cells hb))
 replace R6 := Lib.hid (R6.out.of (below_cells hb))
 replace R7 := Lib.hid (R7.out.of (below_cells hb))
 replace R8 := Lib.hid (R8.out.of (below_cells hb))
 replace R9 := Lib.hid (R9.out.of (below_cells hb))
 replace R10 := Lib.hid (R10.out.of (below_cells hb))
 have R11 := Lib.hid hrow
 replace HB := Lib.hid (HB.out.trans (hb.mono HB.out.size))
 clear hW hrow hb HA0 HM0 HA1 HM1 HA2 HM2
 generalize W10.heap.size = h11 at *
 obtain ⟨a0, x0, b0, y0, c0, z0, hk0, hA0⟩ := N2.out
 have e00 := blk_cell hk0 0
 have e01 := blk_cell hk0 1
 have e02 := blk_cell hk0 2
 have e03 := blk_cell hk0 3
 simp only [List.getElem?_toArray, List.getElem?_cons_succ, List.getElem?_cons_zero] at e00 e01 e02 e03
 have HA0 := Lib.hid hA0
 clear hk0 hA0
 generalize hm0 : (Part.mask .S) = m0 at e00
 have HM0 := Lib.hid hm0
 clear hm0
 refine wpList_step (fun K hK => ?_)
 go_simp
 refine hK _ _ ?_
 clear hK K
 clear e00 e01 e02 e03
 refine wpList_step (fun K hK => ?_)
 go_simp
 refine hK _ _ ?_
 clear hK K
 generalize hW : World.alloc _ _ = W12
 have hrow : RowAt W12 W11.heap.size [.S] := by rw [← hW, ← HM0.out]; exact row1 HA0.out
 have hb : Below W11.heap.size W11 W12 := by rw [← hW]; exact below1 _ _
 replace N1 := Lib.hid (N1.out.of hb)
 replace N2 := Lib.hid (N2.out.of hb)
 replace N3 := Lib.hid (N3.out.of hb)
 replace N4 := Lib.hid (N4.out.of hb)
 replace N5 := Lib.hid (N5.out.of hb)
 replace N6 := Lib.hid (N6.out.of hb)
 replace N7 := Lib.hid (N7.out.of hb)
 replace N8 := Lib.hid (N8.out.of hb)
 replace N9 := Lib.hid (N9.out.of hb)
 replace N10 := Lib.hid (N10.out.of hb)
 replace N11 := Lib.hid (N11.out.of hb)
 replace N12 := Lib.hid (N12.out.of hb)
 replace R1 := Lib.hid (R1.out.of (below_cells hb))
 replace R2 := Lib.hid (R2.out.of (below_cells hb))
 replace R3 := Lib.hid (R3.out.of (below_cells hb))
 replace R4 := Lib.hid (R4.out.of (below_cells hb))
 replace R5 := Lib.hid (R5.out.of (below_cells hb))
 replace R6 := Lib.hid (R6.out.of (below_cells hb))
 replace R7 := Lib.hid (R7.out.of (below_cells hb))
 replace R8 := Lib.hid (R8.out.of (below_cells hb))
 replace R9 := Lib.hid (R9.out.of (below_cells hb))
 replace R10 := Lib.hid (R10.out.of (below_cells hb))
 replace R11 := Lib.hid (R11.out.of (below_cells hb))
 have R12 := Lib.hid hrow
 replace HB := Lib.hid (HB.out.trans (hb.mono HB.out.size))
 clear hW hrow hb HA0 HM0
 generalize W11.heap.size = h12 at *
 obtain ⟨a0, x0, b0, y0, c0, z0, hk0, hA0⟩ := N9.out
 have e00 := blk_cell hk0 0
 have e01 := blk_cell hk0 1
 have e02 := blk_cell hk0 2
 have e03 := blk_cell hk0 3
 simp only [List.getElem?_toArray, List.getElem?_cons_succ, List.getElem?_cons_zero] at e00 e01 e02 e03
 have HA0 := Lib.hid hA0
 clear hk0 hA0
 generalize hm0 : (Part.mask .J) = m0 at e00
 have HM0 := Lib.hid hm0
 clear hm0
 refine wpList_step (fun K hK => ?_)
 go_simp
 refine hK _ _ ?_
 clear hK K
 clear e00 e01 e02 e03
 refine wpList_step (fun K hK => ?_)
 go_simp
 refine hK _ _ ?_
 clear hK K
 generalize hW : World.alloc _ _ = W13
 have hrow : RowAt W13 W12.heap.size [.J] := by rw [← hW, ← HM0.out]; exact row1 HA0.out
 have hb : Below W12.heap.size W12 W13 := by rw [← hW]; exact below1 _ _
 replace N1 := Lib.hid (N1.out.of hb)
 replace N2 := Lib.hid (N2.out.of hb)
 replace N3 := Lib.hid (N3.out.of hb)
 replace N4 := Lib.hid (N4.out.of hb)
 replace N5 := Lib.hid (N5.out.of hb)
 replace N6 := Lib.hid (N6.out.of hb)
 replace N7 := Lib.hid (N7.out.of hb)
 replace N8 := Lib.hid (N8.out.of hb)
 replace N9 := Lib.hid (N9.out.of hb)
 replace N10 := Lib.hid (N10.out.of hb)
 replace N11 := Lib.hid (N11.out.of hb)
 replace N12 := Lib.hid (N12.out.of hb)
 replace R1 := Lib.hid (R1.out.of (below_cells hb))
 replace R2 := Lib.hid (R2.out.of (below_cells hb))
 replace R3 := Lib.hid (R3.out.of (below_cells hb))
 replace R4 := Lib.hid (R4.out.of (below_cells hb))
 replace R5 := Lib.hid (R5.out.of (below_cells hb))
 replace R6 := Lib.hid (R6.out.of (below_cells hb))
 replace R7 := Lib.hid (R7.out.of (below_cells hb))
 replace R8 := Lib.hid (R8.out.of (below_cells hb))
 replace R9 := Lib.hid (R9.out.of (below_cells hb))
 replace R10 := Lib.hid (R10.out.of (below_cells hb))
 replace R11 := Lib.hid (R11.out.of (below_cells hb))
 replace R12 := Lib.hid (R12.out.of (below_cells hb))
 have R13 := Lib.hid hrow
 replace HB := Lib.hid (HB.out.trans (hb.mono HB.out.size))
 clear hW hrow hb HA0 HM0
 generalize W12.heap.size = h13 at *
 obtain ⟨a0, x0, b0, y0, c0, z0, hk0, hA0⟩ := N2.out
 have e00 := blk_cell hk0 0
 have e01 := blk_cell hk0 1
 have e02 := blk_cell hk0 2
 have e03 := blk_cell hk0 3
 simp only [List.getElem?_toArray, List.getElem?_cons_succ, List.getElem?_cons_zero] at e00 e01 e02 e03
 have HA0 := Lib.hid hA0
 clear hk0 hA0
 generalize hm0 : (Part.mask .S) = m0 at e00
 have HM0 := Lib.hid hm0
 clear hm0
 refine wpList_step (fun K hK => ?_)
 go_simp
 refine hK _ _ ?_
 clear hK K
 clear e00 e01 e02 e03
 obtain ⟨a1, x1, b1, y1, c1, z1, hk1, hA1⟩ := N9.out
 have e10 := blk_cell hk1 0
 have e11 := blk_cell hk1 1
 have e12 := blk_cell hk1 2
 have e13 := blk_cell hk1 3
 simp only [List.getElem?_toArray, List.getElem?_cons_succ, List.getElem?_cons_zero] at e10 e11 e12 e13
 have HA1 := Lib.hid hA1
 clear hk1 hA1
 generalize hm1 : (Part.mask .J) = m1 at e10
 have HM1 := Lib.hid hm1
 clear hm1
 refine wpList_step (fun K hK => ?_)
 go_simp
 refine hK _ _ ?_
 clear hK K
 clear e10 e11 e12 e13
 refine wpList_step (fun K hK => ?_)
 go_simp
 refine hK _ _ ?_
 clear hK K
 generalize hW : World.alloc _ _ = W14
 have hrow : RowAt W14 W13.heap.size [.S, .J] := by rw [← hW, ← HM0.out, ← HM1.out]; exact row2 HA0.out HA1.out
 have hb : Below W13.heap.size W13 W14 := by rw [← hW]; exact below1 _ _
 replace N1 := Lib.hid (N1.out.of hb)
 replace N2 := Lib.hid (N2.out.of hb)
 replace N3 := Lib.hid (N3.out.of hb)
 replace N4 := Lib.hid (N4.out.of hb)
 replace N5 := Lib.hid (N5.out.of hb)
 replace N6 := Lib.hid (N6.out.of hb)
 replace N7 := Lib.hid (N7.out.of hb)
 replace N8 := Lib.hid (N8.out.of hb)
 replace N9 := Lib.hid (N9.out.of hb)
 replace N10 := Lib.hid (N10.out.of hb)
 replace N11 := Lib.hid (N11.out.of hb)
 replace N12 := Lib.hid (N12.out.of hb)
 replace R1 := Lib.hid (R1.out.of (below_cells hb))
 replace R2 := Lib.hid (R2.out.of (below_cells hb))
 replace R3 := Lib.hid (R3.out.of (below_cells hb))
 replace R4 := Lib.hid (R4.out.of (below_cells hb))
 replace R5 := Lib.hid (R5.out.of (below_cells hb))
 replace R6 := Lib.hid (R6.out.of (below_cells hb))
 replace R7 := Lib.hid (R7.out.of (below_cells hb))
 replace R8 := Lib.hid (R8.out.of (below_cells hb))
 replace R9 := Lib.hid (R9.out.of (below_cells hb))
 replace R10 := Lib.hid (R10.out.of (below_cells hb))
 replace R11 := Lib.hid (R11.out.of (below_cells hb))
 replace R12 := Lib.hid (R12.out.of (below_cells hb))
 replace R13 := Lib.hid (R13.out.of (below_cells hb))
 have R14 := Lib.hid hrow
 replace HB := Lib.hid (HB.out.trans (hb.mono HB.out.size))
 clear hW hrow hb HA0 HM0 HA1 HM1
 generalize W13.heap.size = h14 at *
 obtain ⟨a0, x0, b0, y0, c0, z0, hk0, hA0⟩ := N12.out
 have e00 := blk_cell hk0 0
 have e01 := blk_cell hk0 1
 have e02 := blk_cell hk0 2
 have e03 := blk_cell hk0 3
 simp only [List.getElem?_toArray, List.getElem?_cons_succ, List.getElem?_cons_zero] at e00 e01 e02 e03
 have HA0 := Lib.hid hA0
 clear hk0 hA0
 generalize hm0 : (Part.mask .V) = m0 at e00
 have HM0 := Lib.hid hm0
 clear hm0
 refine wpList_step (fun K hK => ?_)
 go_simp
 refine hK _ _ ?_
 clear hK K
 clear e00 e01 e02 e03
 refine wpList_step (fun K hK => ?_)
 go_simp
 refine hK _ _ ?_
 clear hK K
 generalize hW : World.alloc _ _ = W15
 have hrow : RowAt W15 W14.heap.size [.V] := by rw [← hW, ← HM0.out]; exact row1 HA0.out
 have hb : Below W14.heap.size W14 W15 := by rw [← hW]; exact below1 _ _
 replace N1 := Lib.hid (N1.out.of hb)
 replace N2 := Lib.hid (N2.out.of hb)
 replace N3 := Lib.hid (N3.out.of hb)
 replace N4 := Lib.hid (N4.out.of hb)
 replace N5 := Lib.hid (N5.out.of hb)
 replace N6 := Lib.hid (N6.out.of hb)
 replace N7 := Lib.hid (N7.out.of hb)
 replace N8 := Lib.hid (N8.out.of hb)
 replace N9 := Lib.hid (N9.out.of hb)
 replace N10 := Lib.hid (N10.out.of hb)
 replace N11 := Lib.hid (N11.out.of hb)
 replace N12 := Lib.hid (N12.out.of hb)
 replace R1 := Lib.hid (R1.out.of (below_cells hb))
 replace R2 := Lib.hid (R2.out.of (below_cells hb))
 replace R3 := Lib.hid (R3.out.of (below_cells hb))
 replace R4 := Lib.hid (R4.out.of (below_cells hb))
 replace R5 := Lib.hid (R5.out.of (below_cells hb))
 replace R6 := Lib.hid (R6.out.of (below_cells hb))
 replace R7 := Lib.hid (R7.out.of (below_cells hb))
 replace R8 := Lib.hid (R8.out.of (below_cells hb))
 replace R9 := Lib.hid (R9.out.of (below_cells hb))
 replace R10 := Lib.hid (R10.out.of (below_cells hb))
 replace R11 := Lib.hid (R11.out.of (below_cells hb))
 replace R12 := Lib.hid (R12.out.of (below_cells hb))
 replace R13 := Lib.hid (R13.out.of (below_cells hb))
 replace R14 := Lib.hid (R14.out.of (below_cells hb))
 have R15 := Lib.hid hrow
 replace HB := Lib.hid (HB.out.trans (hb.mono HB.out.size))
 clear hW hrow hb HA0 HM0
 generalize W14.heap.size = h15 at *
 obtain ⟨a0, x0, b0, y0, c0, z0, hk0, hA0⟩ := N1.out
 have e00 := blk_cell hk0 0
 have e01 := blk_cell hk0 1
 have e02 := blk_cell hk0 2
 have e03 := blk_cell hk0 3
 simp only [List.getElem?_toArray, List.getElem?_cons_succ, List.getElem?_cons_zero] at e00 e01 e02 e03
 have HA0 := Lib.hid hA0
 clear hk0 hA0
 generalize hm0 : (Part.mask .R) = m0 at e00
 have HM0 := Lib.hid hm0
 clear hm0
 refine wpList_step (fun K hK => ?_)
 go_simp
 refine hK _ _ ?_
 clear hK K
 clear e00 e01 e02 e03
 refine wpList_step (fun K hK => ?_)
 go_simp
 refine hK _ _ ?_
 clear hK K
 generalize hW : World.alloc _ _ = W16
 have hrow : RowAt W16 W15.heap.size [.R] := by rw [← hW, ← HM0.out]; exact row1 HA0.out
 have hb : Below W15.heap.size W15 W16 := by rw [← hW]; exact below1 _ _
 replace N1 := Lib.hid (N1.out.of hb)
 replace N2 := Lib.hid (N2.out.of hb)
 replace N3 := Lib.hid (N3.out.of hb)
 replace N4 := Lib.hid (N4.out.of hb)
 replace N5 := Lib.hid (N5.out.of hb)
 replace N6 := Lib.hid (N6.out.of hb)
 replace N7 := Lib.hid (N7.out.of hb)
 replace N8 := Lib.hid (N8.out.of hb)
 replace N9 := Lib.hid (N9.out.of hb)
 replace N10 := Lib.hid (N10.out.of hb)
 replace N11 := Lib.hid (N11.out.of hb)
 replace N12 := Lib.hid (N12.out.of hb)
 replace R1 := Lib.hid (R1.out.of (below_cells hb))
 replace R2 := Lib.hid (R2.out.of (below_cells hb))
 replace R3 := Lib.hid (R3.out.of (below_cells hb))
 replace R4 := Lib.hid (R4.out.of (below_cells hb))
 replace R5 := Lib.hid (R5.out.of (below_cells hb))
 replace R6 := Lib.hid (R6.out.of (below_cells hb))
 replace R7 := Lib.hid (R7.out.of (below_cells hb))
 replace R8 := Lib.hid (R8.out.of (below_cells hb))
 replace R9 := Lib.hid (R9.out.of (below_cells hb))
 replace R10 := Lib.hid (R10.out.of (below_cells hb))
 replace R11 := Lib.hid (R11.out.of (below_cells hb))
 replace R12 := Lib.hid (R12.out.of (below_cells hb))
 replace R13 := Lib.hid (R13.out.of (below_cells hb))
 replace R14 := Lib.hid (R14.out.of (below_cells hb))
 replace R15 := Lib.hid (R15.out.of (below_cells hb))
 have R16 := Lib.hid hrow
 replace HB := Lib.hid (HB.out.trans (hb.mono HB.out.size))
 clear hW hrow hb HA0 HM0
 generalize W15.heap.size = h16 at *
 obtain ⟨a0, x0, b0, y0, c0, z0, hk0, hA0⟩ := N1.out
 have e00 := blk_cell hk0 0
 have e01 := blk_cell hk0 1
 have e02 := blk_cell hk0 2
 have e03 := blk_cell hk0 3
 simp only [List.getElem?_toArray, List.getElem?_cons_succ, List.getElem?_cons_zero] at e00 e01 e02 e03
 have HA0 := Lib.hid hA0
 clear hk0 hA0
 generalize hm0 : (Part.mask .R) = m0 at e00
 have HM0 := Lib.hid hm0
 clear hm0
 refine wpList_step (fun K hK => ?_)
 go_simp
 refine hK _ _ ?_
 clear hK K
 clear e00 e01 e02 e03
 obtain ⟨a1, x1, b1, y1, c1, z1, hk1, hA1⟩ := N2.out
 have e10 := blk_cell hk1 0
 have e11 := blk_cell hk1 1
 have e12 := blk_cell hk1 2
 have e13 := blk_cell hk1 3
 simp only [List.getElem?_toArray, List.getElem?_cons_succ, List.getElem?_cons_zero] at e10 e11 e12 e13
 have HA1 := Lib.hid hA1
 clear hk1 hA1
 generalize hm1 : (Part.mask .S) = m1 at e10
 have HM1 := Lib.hid hm1
 clear hm1
 refine wpList_step (fun K hK => ?_)
 go_simp
 refine hK _ _ ?_
 clear hK K
 clear e10 e11 e12 e13
 obtain ⟨a2, x2, b2, y2, c2, z2, hk2, hA2⟩ := N3.out
 have e20 := blk_cell hk2 0
 have e21 := blk_cell hk2 1
 have e22 := blk_cell hk2 2
 have e23 := blk_cell hk2 3
 simp only [List.getElem?_toArray, List.getElem?_cons_succ, List.getElem?_cons_zero] at e20 e21 e22 e23
 have HA2 := Lib.hid hA2
 clear hk2 hA2
 generalize hm2 : (Part.mask .T) = m2 at e20
 have HM2 := Lib.hid hm2
 clear hm2
 refine wpList_step (fun K hK => ?_)
 go_simp
 refine hK _ _ ?_
 clear hK K
 clear e20 e21 e22 e23
 refine wpList_step (fun K hK => ?_)
 go_simp
 refine hK _ _ ?_
 clear hK K
 generalize hW : World.alloc _ _ = W17
 have hrow : RowAt W17 W16.heap.size [.R, .S, .T] := by rw [← hW, ← HM0.out, ← HM1.out, ← HM2.out]; exact row3 HA0.out HA1.out HA2.out
 have hb : Below W16.heap.size W16 W17 := by rw [← hW]; exact below1 _ _
 replace N1 := Lib.hid (N1.out.of hb)
 replace N2 := Lib.hid (N2.out.of hb)
 replace N3 := Lib.hid (N3.out.of hb)
 replace N4 := Lib.hid (N4.out.of hb)
 replace N5 := Lib.hid (N5.out.of hb)
 replace N6 := Lib.hid (N6.out.of hb)
 replace N7 := Lib.hid (N7.out.of hb)
 replace N8 := Lib.hid (N8.out.of hb)
 replace N9 := Lib.hid (N9.out.of hb)
 replace N10 := Lib.hid (N10.out.of hb)
 replace N11 := Lib.hid (N11.out.of hb)
 replace N12 := Lib.hid (N12.out.of hb)
 replace R1 := Lib.hid (R1.out.of (below_cells hb))
 replace R2 := Lib.hid (R2.out.of (below_cells hb))
 replace R3 := Lib.hid (R3.out.of (below_cells hb))
 replace R4 := Lib.hid (R4.out.of (below_cells hb))
 replace R5 := Lib.hid (R5.out.of (below_cells hb))
 replace R6 := Lib.hid (R6.out.of (below_cells hb))
 replace R7 := Lib.hid (R7.out.of (below_cells hb))
 replace R8 := Lib.hid (R8.out.of (below_cells hb))
 replace R9 := Lib.hid (R9.out.of (below_cells hb))
 replace R10 := Lib.hid (R10.out.of (below_cells hb))
 replace R11 := Lib.hid (R11.out.of (below_cells hb))
 replace R12 := Lib.hid (R12.out.of (below_cells hb))
 replace R13 := Lib.hid (R13.out.of (below_cells hb))
 replace R14 := Lib.hid (R14.out.of (below_cells hb))
 replace R15 := Lib.hid (R15.out.of (below_cells hb))
 replace R16 := Lib.hid (R16.out.of (below_cells hb))
 have R17 := Lib.hid hrow
 replace HB := Lib.hid (HB.out.trans (hb.mono HB.out.size))
 clear hW hrow hb HA0 HM0 HA1 HM1 HA2 HM2
 generalize W16.heap.size = h17 at *
 refine wpList_step (fun K hK => ?_)
 go_simp
 refine hK _ _ ?_
 clear hK K
 have htg := alloc_new W17 (.cells #[.slice none 0 0, .slice (some ⟨h1, 0, none⟩) 2 2, .slice (some ⟨h2, 0, none⟩) 2 2, .slice (some ⟨h3, 0, none⟩) 3 3, .slice (some ⟨h4, 0, none⟩) 3 3, .slice (some ⟨h5, 0, none⟩) 2 2, .slice (some ⟨h6, 0, none⟩) 2 2, .slice (some ⟨h7, 0, none⟩) 3 3, .slice (some ⟨h8, 0, none⟩) 3 3, .slice (some ⟨h9, 0, none⟩) 2 2, .slice (some ⟨h10, 0, none⟩) 2 2, .slice (some ⟨h11, 0, none⟩) 3 3, .slice (some ⟨h12, 0, none⟩) 1 1, .slice (some ⟨h13, 0, none⟩) 1 1, .slice (some ⟨h14, 0, none⟩) 2 2, .slice (some ⟨h15, 0, none⟩) 1 1, .slice (some ⟨h16, 0, none⟩) 1 1, .slice (some ⟨h17, 0, none⟩) 3 3] 203)
 generalize hW : World.alloc _ _ = W18 at htg ⊢
 have hb : Below W17.heap.size W17 W18 := by rw [← hW]; exact below1 _ _
 replace R1 := R1.out.of (below_cells hb)
 replace R2 := R2.out.of (below_cells hb)
 replace R3 := R3.out.of (below_cells hb)
 replace R4 := R4.out.of (below_cells hb)
 replace R5 := R5.out.of (below_cells hb)
 replace R6 := R6.out.of (below_cells hb)
 replace R7 := R7.out.of (below_cells hb)
 replace R8 := R8.out.of (below_cells hb)
 replace R9 := R9.out.of (below_cells hb)
 replace R10 := R10.out.of (below_cells hb)
 replace R11 := R11.out.of (below_cells hb)
 replace R12 := R12.out.of (below_cells hb)
 replace R13 := R13.out.of (below_cells hb)
 replace R14 := R14.out.of (below_cells hb)
 replace R15 := R15.out.of (below_cells hb)
 replace R16 := R16.out.of (below_cells hb)
 replace R17 := R17.out.of (below_cells hb)
 have HB2 := HB.out.trans (hb.mono HB.out.size)
 have hT : TableAt W18 W17.heap.size := ⟨fun k h0 hk => by
  have hk' : k = 1 ∨ k = 2 ∨ k = 3 ∨ k = 4 ∨ k = 5 ∨ k = 6 ∨ k = 7 ∨ k = 8 ∨ k = 9 ∨ k = 10 ∨ k = 11 ∨ k = 12 ∨ k = 13 ∨ k = 14 ∨ k = 15 ∨ k = 16 ∨ k = 17 := by omega
  rcases hk' with rfl | rfl | rfl | rfl | rfl | rfl | rfl | rfl | rfl | rfl | rfl | rfl | rfl | rfl | rfl | rfl | rfl
  ·exact ⟨h1, 2, blk_cell htg 1, R1⟩
  ·exact ⟨h2, 2, blk_cell htg 2, R2⟩
  ·exact ⟨h3, 3, blk_cell htg 3, R3⟩
  ·exact ⟨h4, 3, blk_cell htg 4, R4⟩
  ·exact ⟨h5, 2, blk_cell htg 5, R5⟩
  ·exact ⟨h6, 2, blk_cell htg 6, R6⟩
  ·exact ⟨h7, 3, blk_cell htg 7, R7⟩
  ·exact ⟨h8, 3, blk_cell htg 8, R8⟩
  ·exact ⟨h9, 2, blk_cell htg 9, R9⟩
  ·exact ⟨h10, 2, blk_cell htg 10, R10⟩
  ·exact ⟨h11, 3, blk_cell htg 11, R11⟩
  ·exact ⟨h12, 1, blk_cell htg 12, R12⟩
  ·exact ⟨h13, 1, blk_cell htg 13, R13⟩
  ·exact ⟨h14, 2, blk_cell htg 14, R14⟩
  ·exact ⟨h15, 1, blk_cell htg 15, R15⟩
  ·exact ⟨h16, 1, blk_cell htg 16, R16⟩
  ·exact ⟨h17, 3, blk_cell htg 17, R17⟩⟩
 clear R1 R2 R3 R4 R5 R6 R7 R8 R9 R10 R11 R12 R13 R14 R15 R16 R17 htg hb hW
 go_wp2_with fail
 go_ret
 exact ⟨_, _, rfl, hT, HB2⟩
theorem assert_stop (v : Value) (w : World) : (Instr.typeAssert (.iface 193 v) 20 193 true).run Tryz.prog w = .ok (.tuple #[v, .bool true]) w := by
 simp [Instr.typeAssert, go_sem]
theorem assert_nil (w : World) : (Instr.typeAssert .nilIface 20 193 true).run Tryz.prog w = .ok (.tuple #[.agg #[.int .i64 0, .int .i64 0], .bool false]) w := by
 simp [Instr.typeAssert, go_sem]
set_option maxRecDepth 100000 in
theorem catch_thrown (p : Addr) (err x : Int) (older : List PanicEntry) (w : World) (hc : w.cell? p = some (.int .i64 x)) (hz : w.frozen? p = false) :
  CallsD Tryz.prog 140 #[.pointer (some p)] (.panicking ({ v := .iface 193 (.agg #[.int .i64 err, .int .i64 0]), recovered := false } :: older)) w fun e u' w' =>
   e = .returned (.tuple #[]) ∧ u' = .panicking ({ v := .iface 193 (.agg #[.int .i64 err, .int .i64 0]), recovered := true } :: older) ∧ w' = (w.alloc (.cells #[.int .i64 err, .int .i64 0] 193)).setCell p (.int .i64 err) := by
 refine callsD_of_wpS Tryz.func140 rfl fun c₀ cs hu => ?_
 simp only [Tryz.ntmps140, List.size_toArray, List.length_cons, List.length_nil, Nat.reduceAdd, Nat.reduceSub, Array.replicate_succ, Array.replicate_zero, List.push_toArray, List.append_toArray, List.nil_append, List.cons_append]
 have ha := assert_stop (.agg #[.int .i64 err, .int .i64 0])
 apply wpS_seq
 apply wpS_region
 simp [wpOpsS, ha, go_sem, recoverD, hu, Tryz.ntmps140, Exit.thenS]
 have hb : p.block < w.heap.size := World.block_lt_of_cell? w p hc
 have hc' : (w.alloc (.cells #[.int .i64 err, .int .i64 0] 193)).cell? p = some (.int .i64 x) := below_cells (below1 w _) p _ hc
 have hz' : (w.alloc (.cells #[.int .i64 err, .int .i64 0] 193)).frozen? p = false := by rw [(below1 w _).frozen hb]; exact hz
 apply wpS_seq
 apply wpS_region
 simp [wpOpsS, go_sem, Exit.thenS]
 refine wpS_cond (t := true) (by simp [Act.eval]) ?_
 simp only [if_true]
 apply wpS_region
 simp [wpOpsS, go_sem, hc', hz', bodyPostS, results, Tryz.results140]
set_option maxRecDepth 100000 in
theorem catch_none (p : Addr) (w : World) :
  CallsD Tryz.prog 140 #[.pointer (some p)] .returning w fun e u' w' => e = .returned (.tuple #[]) ∧ u' = .returning ∧ w' = w.alloc (.cells #[.int .i64 0, .int .i64 0] 193) := by
 refine callsD_of_wpS Tryz.func140 rfl fun c₀ cs hu => ?_
 simp only [Tryz.ntmps140, List.size_toArray, List.length_cons, List.length_nil, Nat.reduceAdd, Nat.reduceSub, Array.replicate_succ, Array.replicate_zero, List.push_toArray, List.append_toArray, List.nil_append, List.cons_append]
 have ha := assert_nil
 apply wpS_seq
 apply wpS_region
 simp [wpOpsS, ha, go_sem, recoverD, hu, Tryz.ntmps140, Exit.thenS]
 apply wpS_seq
 apply wpS_region
 simp [wpOpsS, go_sem, Exit.thenS]
 refine wpS_cond (t := false) (by simp [Act.eval]) ?_
 simp only [Bool.false_eq_true, if_false]
 refine wpS_of_wp (wp_skip ?_)
 trace_state
 cases c₀
 simp_all [bodyPostS, results, Tryz.results140]
end Go.Proofs.YtcbcacbbnojdjaaGreatDoor
