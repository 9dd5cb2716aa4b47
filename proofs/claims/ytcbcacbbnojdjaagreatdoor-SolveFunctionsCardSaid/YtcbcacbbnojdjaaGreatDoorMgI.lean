/-
 Part I of what the law's proof needs: walks of the program's functions and the plain laws of what they tell. No condition.
-/
import Derived.Test.YtcbcacbbnojdjaaGreatDoorMgH
import Derived.Test.YtcbcacbbnojdjaaGreatDoorMgF
namespace Go.Proofs.YtcbcacbbnojdjaaGreatDoor
open Go.RowKit Go.Proofs.YtcbcacbbnojdjaaGreatDoorW.PrintWords Go.Proofs.YtcbcacbbnojdjaaGreatDoor.PSolveFunctions
set_option linter.unusedVariables false
set_option linter.unusedSimpArgs false
set_option maxRecDepth 100000 in
theorem plain1 : ∀ u1 u2 u3 u4 u5 u6 : Bool, (bits .andNot .i64 (usedTo [u1, u2, u3, u4, u5, u6] 6) (maskTo (table.getD 1 []) (table.getD 1 []).length) == 0) = ((((((!u1 || nmB 1 82) && (!u2 || nmB 1 83)) && (!u3 || nmB 1 84)) && (!u4 || (((((nmB 1 105 || nmB 1 99) || nmB 1 102) || nmB 1 103) || nmB 1 70) || nmB 1 74))) && (!u5 || (nmB 1 65 || nmB 1 86))) && (!u6 || nmB 1 66)) := by decide +kernel
theorem plain2 : ∀ u1 u2 u3 u4 u5 u6 : Bool, (bits .andNot .i64 (usedTo [u1, u2, u3, u4, u5, u6] 6) (maskTo (table.getD 2 []) (table.getD 2 []).length) == 0) = ((((((!u1 || nmB 2 82) && (!u2 || nmB 2 83)) && (!u3 || nmB 2 84)) && (!u4 || (((((nmB 2 105 || nmB 2 99) || nmB 2 102) || nmB 2 103) || nmB 2 70) || nmB 2 74))) && (!u5 || (nmB 2 65 || nmB 2 86))) && (!u6 || nmB 2 66)) := by decide +kernel
theorem plain3 : ∀ u1 u2 u3 u4 u5 u6 : Bool, (bits .andNot .i64 (usedTo [u1, u2, u3, u4, u5, u6] 6) (maskTo (table.getD 3 []) (table.getD 3 []).length) == 0) = ((((((!u1 || nmB 3 82) && (!u2 || nmB 3 83)) && (!u3 || nmB 3 84)) && (!u4 || (((((nmB 3 105 || nmB 3 99) || nmB 3 102) || nmB 3 103) || nmB 3 70) || nmB 3 74))) && (!u5 || (nmB 3 65 || nmB 3 86))) && (!u6 || nmB 3 66)) := by decide +kernel
theorem plain4 : ∀ u1 u2 u3 u4 u5 u6 : Bool, (bits .andNot .i64 (usedTo [u1, u2, u3, u4, u5, u6] 6) (maskTo (table.getD 4 []) (table.getD 4 []).length) == 0) = ((((((!u1 || nmB 4 82) && (!u2 || nmB 4 83)) && (!u3 || nmB 4 84)) && (!u4 || (((((nmB 4 105 || nmB 4 99) || nmB 4 102) || nmB 4 103) || nmB 4 70) || nmB 4 74))) && (!u5 || (nmB 4 65 || nmB 4 86))) && (!u6 || nmB 4 66)) := by decide +kernel
theorem plain5 : ∀ u1 u2 u3 u4 u5 u6 : Bool, (bits .andNot .i64 (usedTo [u1, u2, u3, u4, u5, u6] 6) (maskTo (table.getD 5 []) (table.getD 5 []).length) == 0) = ((((((!u1 || nmB 5 82) && (!u2 || nmB 5 83)) && (!u3 || nmB 5 84)) && (!u4 || (((((nmB 5 105 || nmB 5 99) || nmB 5 102) || nmB 5 103) || nmB 5 70) || nmB 5 74))) && (!u5 || (nmB 5 65 || nmB 5 86))) && (!u6 || nmB 5 66)) := by decide +kernel
theorem plain6 : ∀ u1 u2 u3 u4 u5 u6 : Bool, (bits .andNot .i64 (usedTo [u1, u2, u3, u4, u5, u6] 6) (maskTo (table.getD 6 []) (table.getD 6 []).length) == 0) = ((((((!u1 || nmB 6 82) && (!u2 || nmB 6 83)) && (!u3 || nmB 6 84)) && (!u4 || (((((nmB 6 105 || nmB 6 99) || nmB 6 102) || nmB 6 103) || nmB 6 70) || nmB 6 74))) && (!u5 || (nmB 6 65 || nmB 6 86))) && (!u6 || nmB 6 66)) := by decide +kernel
theorem plain7 : ∀ u1 u2 u3 u4 u5 u6 : Bool, (bits .andNot .i64 (usedTo [u1, u2, u3, u4, u5, u6] 6) (maskTo (table.getD 7 []) (table.getD 7 []).length) == 0) = ((((((!u1 || nmB 7 82) && (!u2 || nmB 7 83)) && (!u3 || nmB 7 84)) && (!u4 || (((((nmB 7 105 || nmB 7 99) || nmB 7 102) || nmB 7 103) || nmB 7 70) || nmB 7 74))) && (!u5 || (nmB 7 65 || nmB 7 86))) && (!u6 || nmB 7 66)) := by decide +kernel
theorem plain8 : ∀ u1 u2 u3 u4 u5 u6 : Bool, (bits .andNot .i64 (usedTo [u1, u2, u3, u4, u5, u6] 6) (maskTo (table.getD 8 []) (table.getD 8 []).length) == 0) = ((((((!u1 || nmB 8 82) && (!u2 || nmB 8 83)) && (!u3 || nmB 8 84)) && (!u4 || (((((nmB 8 105 || nmB 8 99) || nmB 8 102) || nmB 8 103) || nmB 8 70) || nmB 8 74))) && (!u5 || (nmB 8 65 || nmB 8 86))) && (!u6 || nmB 8 66)) := by decide +kernel
theorem plain9 : ∀ u1 u2 u3 u4 u5 u6 : Bool, (bits .andNot .i64 (usedTo [u1, u2, u3, u4, u5, u6] 6) (maskTo (table.getD 9 []) (table.getD 9 []).length) == 0) = ((((((!u1 || nmB 9 82) && (!u2 || nmB 9 83)) && (!u3 || nmB 9 84)) && (!u4 || (((((nmB 9 105 || nmB 9 99) || nmB 9 102) || nmB 9 103) || nmB 9 70) || nmB 9 74))) && (!u5 || (nmB 9 65 || nmB 9 86))) && (!u6 || nmB 9 66)) := by decide +kernel
theorem plain10 : ∀ u1 u2 u3 u4 u5 u6 : Bool, (bits .andNot .i64 (usedTo [u1, u2, u3, u4, u5, u6] 6) (maskTo (table.getD 10 []) (table.getD 10 []).length) == 0) = ((((((!u1 || nmB 10 82) && (!u2 || nmB 10 83)) && (!u3 || nmB 10 84)) && (!u4 || (((((nmB 10 105 || nmB 10 99) || nmB 10 102) || nmB 10 103) || nmB 10 70) || nmB 10 74))) && (!u5 || (nmB 10 65 || nmB 10 86))) && (!u6 || nmB 10 66)) := by decide +kernel
theorem plain11 : ∀ u1 u2 u3 u4 u5 u6 : Bool, (bits .andNot .i64 (usedTo [u1, u2, u3, u4, u5, u6] 6) (maskTo (table.getD 11 []) (table.getD 11 []).length) == 0) = ((((((!u1 || nmB 11 82) && (!u2 || nmB 11 83)) && (!u3 || nmB 11 84)) && (!u4 || (((((nmB 11 105 || nmB 11 99) || nmB 11 102) || nmB 11 103) || nmB 11 70) || nmB 11 74))) && (!u5 || (nmB 11 65 || nmB 11 86))) && (!u6 || nmB 11 66)) := by decide +kernel
theorem plain12 : ∀ u1 u2 u3 u4 u5 u6 : Bool, (bits .andNot .i64 (usedTo [u1, u2, u3, u4, u5, u6] 6) (maskTo (table.getD 12 []) (table.getD 12 []).length) == 0) = ((((((!u1 || nmB 12 82) && (!u2 || nmB 12 83)) && (!u3 || nmB 12 84)) && (!u4 || (((((nmB 12 105 || nmB 12 99) || nmB 12 102) || nmB 12 103) || nmB 12 70) || nmB 12 74))) && (!u5 || (nmB 12 65 || nmB 12 86))) && (!u6 || nmB 12 66)) := by decide +kernel
theorem plain13 : ∀ u1 u2 u3 u4 u5 u6 : Bool, (bits .andNot .i64 (usedTo [u1, u2, u3, u4, u5, u6] 6) (maskTo (table.getD 13 []) (table.getD 13 []).length) == 0) = ((((((!u1 || nmB 13 82) && (!u2 || nmB 13 83)) && (!u3 || nmB 13 84)) && (!u4 || (((((nmB 13 105 || nmB 13 99) || nmB 13 102) || nmB 13 103) || nmB 13 70) || nmB 13 74))) && (!u5 || (nmB 13 65 || nmB 13 86))) && (!u6 || nmB 13 66)) := by decide +kernel
theorem plain14 : ∀ u1 u2 u3 u4 u5 u6 : Bool, (bits .andNot .i64 (usedTo [u1, u2, u3, u4, u5, u6] 6) (maskTo (table.getD 14 []) (table.getD 14 []).length) == 0) = ((((((!u1 || nmB 14 82) && (!u2 || nmB 14 83)) && (!u3 || nmB 14 84)) && (!u4 || (((((nmB 14 105 || nmB 14 99) || nmB 14 102) || nmB 14 103) || nmB 14 70) || nmB 14 74))) && (!u5 || (nmB 14 65 || nmB 14 86))) && (!u6 || nmB 14 66)) := by decide +kernel
theorem plain15 : ∀ u1 u2 u3 u4 u5 u6 : Bool, (bits .andNot .i64 (usedTo [u1, u2, u3, u4, u5, u6] 6) (maskTo (table.getD 15 []) (table.getD 15 []).length) == 0) = ((((((!u1 || nmB 15 82) && (!u2 || nmB 15 83)) && (!u3 || nmB 15 84)) && (!u4 || (((((nmB 15 105 || nmB 15 99) || nmB 15 102) || nmB 15 103) || nmB 15 70) || nmB 15 74))) && (!u5 || (nmB 15 65 || nmB 15 86))) && (!u6 || nmB 15 66)) := by decide +kernel
theorem plain16 : ∀ u1 u2 u3 u4 u5 u6 : Bool, (bits .andNot .i64 (usedTo [u1, u2, u3, u4, u5, u6] 6) (maskTo (table.getD 16 []) (table.getD 16 []).length) == 0) = ((((((!u1 || nmB 16 82) && (!u2 || nmB 16 83)) && (!u3 || nmB 16 84)) && (!u4 || (((((nmB 16 105 || nmB 16 99) || nmB 16 102) || nmB 16 103) || nmB 16 70) || nmB 16 74))) && (!u5 || (nmB 16 65 || nmB 16 86))) && (!u6 || nmB 16 66)) := by decide +kernel
theorem plain17 : ∀ u1 u2 u3 u4 u5 u6 : Bool, (bits .andNot .i64 (usedTo [u1, u2, u3, u4, u5, u6] 6) (maskTo (table.getD 17 []) (table.getD 17 []).length) == 0) = ((((((!u1 || nmB 17 82) && (!u2 || nmB 17 83)) && (!u3 || nmB 17 84)) && (!u4 || (((((nmB 17 105 || nmB 17 99) || nmB 17 102) || nmB 17 103) || nmB 17 70) || nmB 17 74))) && (!u5 || (nmB 17 65 || nmB 17 86))) && (!u6 || nmB 17 66)) := by decide +kernel
theorem plainR_plain (x : Ins) (h : 1 ≤ x.f0 ∧ x.f0 < 18) : plainR x = plainB (table.getD x.f0.toNat []) x := by
 have e1 : (x.f1 == 0) = !(x.f1 != 0) := by simp [bne]
 have e2 : (x.f2 == 0) = !(x.f2 != 0) := by simp [bne]
 have e3 : (x.f3 == 0) = !(x.f3 != 0) := by simp [bne]
 have e4 : (x.f4 == 0) = !(x.f4 != 0) := by simp [bne]
 have e5 : ((x.f5.length : Int) == 0) = !(decide (0 < x.f5.length)) := by cases x.f5 <;> simp <;> omega
 have e6 : ((x.f6.length : Int) == 0) = !(decide (0 < x.f6.length)) := by cases x.f6 <;> simp <;> omega
 have hk : x.f0 = 1 ∨ x.f0 = 2 ∨ x.f0 = 3 ∨ x.f0 = 4 ∨ x.f0 = 5 ∨ x.f0 = 6 ∨ x.f0 = 7 ∨ x.f0 = 8 ∨ x.f0 = 9 ∨ x.f0 = 10 ∨ x.f0 = 11 ∨ x.f0 = 12 ∨ x.f0 = 13 ∨ x.f0 = 14 ∨ x.f0 = 15 ∨ x.f0 = 16 ∨ x.f0 = 17 := by omega
 rw [plainR, plainB, used, e1, e2, e3, e4, e5, e6]
 rcases hk with hk | hk | hk | hk | hk | hk | hk | hk | hk | hk | hk | hk | hk | hk | hk | hk | hk
 ·rw [hk]; exact (plain1 _ _ _ _ _ _).symm
 ·rw [hk]; exact (plain2 _ _ _ _ _ _).symm
 ·rw [hk]; exact (plain3 _ _ _ _ _ _).symm
 ·rw [hk]; exact (plain4 _ _ _ _ _ _).symm
 ·rw [hk]; exact (plain5 _ _ _ _ _ _).symm
 ·rw [hk]; exact (plain6 _ _ _ _ _ _).symm
 ·rw [hk]; exact (plain7 _ _ _ _ _ _).symm
 ·rw [hk]; exact (plain8 _ _ _ _ _ _).symm
 ·rw [hk]; exact (plain9 _ _ _ _ _ _).symm
 ·rw [hk]; exact (plain10 _ _ _ _ _ _).symm
 ·rw [hk]; exact (plain11 _ _ _ _ _ _).symm
 ·rw [hk]; exact (plain12 _ _ _ _ _ _).symm
 ·rw [hk]; exact (plain13 _ _ _ _ _ _).symm
 ·rw [hk]; exact (plain14 _ _ _ _ _ _).symm
 ·rw [hk]; exact (plain15 _ _ _ _ _ _).symm
 ·rw [hk]; exact (plain16 _ _ _ _ _ _).symm
 ·rw [hk]; exact (plain17 _ _ _ _ _ _).symm
def locsR (w : World) (g : Nat) (v0 v1 : Value) (r : Except Int Int) (e : Ending) (w' : World) : Prop :=
 e = .returned (.tuple #[]) ∧ Kept g w w' ∧ match r with
  | .ok m => WalkAt w' g v0 v1 m 0
  | .error err => ∃ l', WalkAt w' g v0 v1 l' err
set_option maxRecDepth 100000 in
set_option maxHeartbeats 6400000 in
theorem headR_any (g : Nat) (v0 v1 : Value) (l : Int) (f : Fun) (A : Option Addr) (k c : Nat) (n : Int) (w : World) (h : WalkAt w g v0 v1 l 0) (hl : 0 ≤ l ∧ l < 1048576) (hn : n < 9223372036854775807) :
  Calls Tryz.prog 116 #[.pointer (some ⟨g, 0, none⟩), .agg #[.int .i64 f.f0, .int .i64 f.f1, .int .i64 f.f2, .slice A k c], .int .i64 n] w (locsR w g v0 v1 (headQ l f n)) := by
 obtain ⟨q, hq⟩ : ∃ q, q = headQ l f n := ⟨_, rfl⟩
 rw [← hq]
 have HQ := Lib.hid hq
 clear hq
 generalize h0 : f.f0 = i0
 generalize h1 : f.f1 = i1
 generalize h2 : f.f2 = i2
 have HF := Lib.hid (And.intro h0 (And.intro h1 h2))
 clear h0 h1 h2
 obtain ⟨c1, hc1⟩ : ∃ b, decide (0 ≤ i0) = b := ⟨_, rfl⟩
 obtain ⟨c2, hc2⟩ : ∃ b, decide (i0 ≤ 8) = b := ⟨_, rfl⟩
 obtain ⟨c3, hc3⟩ : ∃ b, decide (i0 ≤ i2) = b := ⟨_, rfl⟩
 obtain ⟨c4, hc4⟩ : ∃ b, decide (0 ≤ i1) = b := ⟨_, rfl⟩
 obtain ⟨c5, hc5⟩ : ∃ b, decide (i1 ≤ 4) = b := ⟨_, rfl⟩
 obtain ⟨c6, hc6⟩ : ∃ b, decide (i2 ≤ 255) = b := ⟨_, rfl⟩
 obtain ⟨c7, hc7⟩ : ∃ b, decide (n ≤ 4096) = b := ⟨_, rfl⟩
 go_enter Tryz.func116, Tryz.ntmps116
 go_upto_region 1 with (fail)
 have hx := alloc_new w (.cells #[.int .i64 i0, .int .i64 i1, .int .i64 i2, .slice A k c] 66)
 have hb := below1 w (.cells #[.int .i64 i0, .int .i64 i1, .int .i64 i2, .slice A k c] 66)
 have hw := walk_below h hb
 have hg0 : g ≠ w.heap.size := Nat.ne_of_lt (blk_lt h)
 generalize World.alloc _ _ = W at hx hb hw ⊢
 have HB := Lib.hid hb
 have HW := Lib.hid hw
 clear hb h hw
 generalize hbx : w.heap.size = bx at hx ⊢
 have hgx : g ≠ bx := hbx ▸ hg0
 have HX := Lib.hid hx
 clear hx hbx hg0
 go_step
 refine wpList_when (true) (.pointer (some ⟨bx, 0, none⟩)) (by rfl) (by intro _; simp [go_sem]) ?_
 simp only [Act.put, List.setIfInBounds_toArray, List.set_cons_succ, List.set_cons_zero, if_true, ↓reduceIte]
 have ce := blk_cell HX.out 0
 simp only [List.getElem?_toArray, List.getElem?_cons_succ, List.getElem?_cons_zero] at ce
 refine wpList_when (true) (.int .i64 i0) (by rfl) (by intro _; simp [go_sem, ce]) ?_
 simp only [Act.put, List.setIfInBounds_toArray, List.set_cons_succ, List.set_cons_zero, if_true, ↓reduceIte]
 clear ce
 refine wpList_when (true) (.bool c1) (by rfl) (by intro _; simp [go_sem, hc1]) ?_
 simp only [Act.put, List.setIfInBounds_toArray, List.set_cons_succ, List.set_cons_zero, if_true, ↓reduceIte]
 refine wpList_when (true) (.bool c1) (by rfl) (by intro _; simp [go_sem]) ?_
 simp only [Act.put, List.setIfInBounds_toArray, List.set_cons_succ, List.set_cons_zero, if_true, ↓reduceIte]
 refine wpList_when (c1) (.pointer (some ⟨bx, 0, none⟩)) (by cases c1 <;> rfl) (by intro hb; cases c1 <;> first | (exact absurd hb (by decide)) | simp [go_sem]) ?_
 simp only [Act.put, List.setIfInBounds_toArray, List.set_cons_succ, List.set_cons_zero, if_true, ↓reduceIte]
 have ce := blk_cell HX.out 0
 simp only [List.getElem?_toArray, List.getElem?_cons_succ, List.getElem?_cons_zero] at ce
 refine wpList_when (c1) (.int .i64 i0) (by cases c1 <;> rfl) (by intro hb; cases c1 <;> first | (exact absurd hb (by decide)) | simp [go_sem, ce]) ?_
 simp only [Act.put, List.setIfInBounds_toArray, List.set_cons_succ, List.set_cons_zero, if_true, ↓reduceIte]
 clear ce
 refine wpList_when (c1) (.bool c2) (by cases c1 <;> rfl) (by intro hb; cases c1 <;> first | (exact absurd hb (by decide)) | simp [go_sem, hc2]) ?_
 simp only [Act.put, List.setIfInBounds_toArray, List.set_cons_succ, List.set_cons_zero, if_true, ↓reduceIte]
 obtain ⟨p1, hp1⟩ : ∃ b, b = (c1 && c2) := ⟨_, rfl⟩
 refine wpList_when (true) (.bool p1) (by rfl) (by intro _; subst hp1; cases c1 <;> cases c2 <;> simp [go_sem]) ?_
 simp only [Act.put, List.setIfInBounds_toArray, List.set_cons_succ, List.set_cons_zero, if_true, ↓reduceIte]
 have Hp1 := Lib.hid hp1
 clear hp1
 refine wpList_when (true) (.bool p1) (by rfl) (by intro _; simp [go_sem]) ?_
 simp only [Act.put, List.setIfInBounds_toArray, List.set_cons_succ, List.set_cons_zero, if_true, ↓reduceIte]
 refine wpList_when (p1) (.pointer (some ⟨bx, 0, none⟩)) (by cases p1 <;> rfl) (by intro hb; cases p1 <;> first | (exact absurd hb (by decide)) | simp [go_sem]) ?_
 simp only [Act.put, List.setIfInBounds_toArray, List.set_cons_succ, List.set_cons_zero, if_true, ↓reduceIte]
 have ce := blk_cell HX.out 0
 simp only [List.getElem?_toArray, List.getElem?_cons_succ, List.getElem?_cons_zero] at ce
 refine wpList_when (p1) (.int .i64 i0) (by cases p1 <;> rfl) (by intro hb; cases p1 <;> first | (exact absurd hb (by decide)) | simp [go_sem, ce]) ?_
 simp only [Act.put, List.setIfInBounds_toArray, List.set_cons_succ, List.set_cons_zero, if_true, ↓reduceIte]
 clear ce
 refine wpList_when (p1) (.pointer (some ⟨bx, 2, none⟩)) (by cases p1 <;> rfl) (by intro hb; cases p1 <;> first | (exact absurd hb (by decide)) | simp [go_sem]) ?_
 simp only [Act.put, List.setIfInBounds_toArray, List.set_cons_succ, List.set_cons_zero, if_true, ↓reduceIte]
 have ce := blk_cell HX.out 2
 simp only [List.getElem?_toArray, List.getElem?_cons_succ, List.getElem?_cons_zero] at ce
 refine wpList_when (p1) (.int .i64 i2) (by cases p1 <;> rfl) (by intro hb; cases p1 <;> first | (exact absurd hb (by decide)) | simp [go_sem, ce]) ?_
 simp only [Act.put, List.setIfInBounds_toArray, List.set_cons_succ, List.set_cons_zero, if_true, ↓reduceIte]
 clear ce
 refine wpList_when (p1) (.bool c3) (by cases p1 <;> rfl) (by intro hb; cases p1 <;> first | (exact absurd hb (by decide)) | simp [go_sem, hc3]) ?_
 simp only [Act.put, List.setIfInBounds_toArray, List.set_cons_succ, List.set_cons_zero, if_true, ↓reduceIte]
 obtain ⟨p2, hp2⟩ : ∃ b, b = (p1 && c3) := ⟨_, rfl⟩
 refine wpList_when (true) (.bool p2) (by rfl) (by intro _; subst hp2; cases c3 <;> cases p1 <;> simp [go_sem]) ?_
 simp only [Act.put, List.setIfInBounds_toArray, List.set_cons_succ, List.set_cons_zero, if_true, ↓reduceIte]
 have Hp2 := Lib.hid hp2
 clear hp2
 refine wpList_when (true) (.bool p2) (by rfl) (by intro _; simp [go_sem]) ?_
 simp only [Act.put, List.setIfInBounds_toArray, List.set_cons_succ, List.set_cons_zero, if_true, ↓reduceIte]
 refine wpList_when (p2) (.pointer (some ⟨bx, 1, none⟩)) (by cases p2 <;> rfl) (by intro hb; cases p2 <;> first | (exact absurd hb (by decide)) | simp [go_sem]) ?_
 simp only [Act.put, List.setIfInBounds_toArray, List.set_cons_succ, List.set_cons_zero, if_true, ↓reduceIte]
 have ce := blk_cell HX.out 1
 simp only [List.getElem?_toArray, List.getElem?_cons_succ, List.getElem?_cons_zero] at ce
 refine wpList_when (p2) (.int .i64 i1) (by cases p2 <;> rfl) (by intro hb; cases p2 <;> first | (exact absurd hb (by decide)) | simp [go_sem, ce]) ?_
 simp only [Act.put, List.setIfInBounds_toArray, List.set_cons_succ, List.set_cons_zero, if_true, ↓reduceIte]
 clear ce
 refine wpList_when (p2) (.bool c4) (by cases p2 <;> rfl) (by intro hb; cases p2 <;> first | (exact absurd hb (by decide)) | simp [go_sem, hc4]) ?_
 simp only [Act.put, List.setIfInBounds_toArray, List.set_cons_succ, List.set_cons_zero, if_true, ↓reduceIte]
 obtain ⟨p3, hp3⟩ : ∃ b, b = (p2 && c4) := ⟨_, rfl⟩
 refine wpList_when (true) (.bool p3) (by rfl) (by intro _; subst hp3; cases c4 <;> cases p2 <;> simp [go_sem]) ?_
 simp only [Act.put, List.setIfInBounds_toArray, List.set_cons_succ, List.set_cons_zero, if_true, ↓reduceIte]
 have Hp3 := Lib.hid hp3
 clear hp3
 refine wpList_when (true) (.bool p3) (by rfl) (by intro _; simp [go_sem]) ?_
 simp only [Act.put, List.setIfInBounds_toArray, List.set_cons_succ, List.set_cons_zero, if_true, ↓reduceIte]
 refine wpList_when (p3) (.pointer (some ⟨bx, 1, none⟩)) (by cases p3 <;> rfl) (by intro hb; cases p3 <;> first | (exact absurd hb (by decide)) | simp [go_sem]) ?_
 simp only [Act.put, List.setIfInBounds_toArray, List.set_cons_succ, List.set_cons_zero, if_true, ↓reduceIte]
 have ce := blk_cell HX.out 1
 simp only [List.getElem?_toArray, List.getElem?_cons_succ, List.getElem?_cons_zero] at ce
 refine wpList_when (p3) (.int .i64 i1) (by cases p3 <;> rfl) (by intro hb; cases p3 <;> first | (exact absurd hb (by decide)) | simp [go_sem, ce]) ?_
 simp only [Act.put, List.setIfInBounds_toArray, List.set_cons_succ, List.set_cons_zero, if_true, ↓reduceIte]
 clear ce
 refine wpList_when (p3) (.bool c5) (by cases p3 <;> rfl) (by intro hb; cases p3 <;> first | (exact absurd hb (by decide)) | simp [go_sem, hc5]) ?_
 simp only [Act.put, List.setIfInBounds_toArray, List.set_cons_succ, List.set_cons_zero, if_true, ↓reduceIte]
 obtain ⟨p4, hp4⟩ : ∃ b, b = (p3 && c5) := ⟨_, rfl⟩
 refine wpList_when (true) (.bool p4) (by rfl) (by intro _; subst hp4; cases c5 <;> cases p3 <;> simp [go_sem]) ?_
 simp only [Act.put, List.setIfInBounds_toArray, List.set_cons_succ, List.set_cons_zero, if_true, ↓reduceIte]
 have Hp4 := Lib.hid hp4
 clear hp4
 refine wpList_when (true) (.bool p4) (by rfl) (by intro _; simp [go_sem]) ?_
 simp only [Act.put, List.setIfInBounds_toArray, List.set_cons_succ, List.set_cons_zero, if_true, ↓reduceIte]
 refine wpList_when (p4) (.pointer (some ⟨bx, 2, none⟩)) (by cases p4 <;> rfl) (by intro hb; cases p4 <;> first | (exact absurd hb (by decide)) | simp [go_sem]) ?_
 simp only [Act.put, List.setIfInBounds_toArray, List.set_cons_succ, List.set_cons_zero, if_true, ↓reduceIte]
 have ce := blk_cell HX.out 2
 simp only [List.getElem?_toArray, List.getElem?_cons_succ, List.getElem?_cons_zero] at ce
 refine wpList_when (p4) (.int .i64 i2) (by cases p4 <;> rfl) (by intro hb; cases p4 <;> first | (exact absurd hb (by decide)) | simp [go_sem, ce]) ?_
 simp only [Act.put, List.setIfInBounds_toArray, List.set_cons_succ, List.set_cons_zero, if_true, ↓reduceIte]
 clear ce
 refine wpList_when (p4) (.bool c6) (by cases p4 <;> rfl) (by intro hb; cases p4 <;> first | (exact absurd hb (by decide)) | simp [go_sem, hc6]) ?_
 simp only [Act.put, List.setIfInBounds_toArray, List.set_cons_succ, List.set_cons_zero, if_true, ↓reduceIte]
 obtain ⟨p5, hp5⟩ : ∃ b, b = (p4 && c6) := ⟨_, rfl⟩
 refine wpList_when (true) (.bool p5) (by rfl) (by intro _; subst hp5; cases c6 <;> cases p4 <;> simp [go_sem]) ?_
 simp only [Act.put, List.setIfInBounds_toArray, List.set_cons_succ, List.set_cons_zero, if_true, ↓reduceIte]
 have Hp5 := Lib.hid hp5
 clear hp5
 refine wpList_when (true) (.bool p5) (by rfl) (by intro _; simp [go_sem]) ?_
 simp only [Act.put, List.setIfInBounds_toArray, List.set_cons_succ, List.set_cons_zero, if_true, ↓reduceIte]
 go_upto_region 2 with (fail)
 go_step
 refine wpList_when (true) (.pointer (some ⟨g, 0, none⟩)) (by rfl) (by intro _; simp [go_sem]) ?_
 simp only [Act.put, List.setIfInBounds_toArray, List.set_cons_succ, List.set_cons_zero, if_true, ↓reduceIte]
 refine wpList_when (true) (.bool p5) (by rfl) (by intro _; simp [go_sem]) ?_
 simp only [Act.put, List.setIfInBounds_toArray, List.set_cons_succ, List.set_cons_zero, if_true, ↓reduceIte]
 refine wpList_when (true) (.bool p5) (by rfl) (by intro _; simp [go_sem]) ?_
 simp only [Act.put, List.setIfInBounds_toArray, List.set_cons_succ, List.set_cons_zero, if_true, ↓reduceIte]
 refine wpList_when (p5) (.int .i64 n) (by cases p5 <;> rfl) (by intro hb; cases p5 <;> first | (exact absurd hb (by decide)) | simp [go_sem]) ?_
 simp only [Act.put, List.setIfInBounds_toArray, List.set_cons_succ, List.set_cons_zero, if_true, ↓reduceIte]
 refine wpList_when (p5) (.bool c7) (by cases p5 <;> rfl) (by intro hb; cases p5 <;> first | (exact absurd hb (by decide)) | simp [go_sem, hc7]) ?_
 simp only [Act.put, List.setIfInBounds_toArray, List.set_cons_succ, List.set_cons_zero, if_true, ↓reduceIte]
 obtain ⟨p6, hp6⟩ : ∃ b, b = (p5 && c7) := ⟨_, rfl⟩
 refine wpList_when (true) (.bool p6) (by rfl) (by intro _; subst hp6; cases c7 <;> cases p5 <;> simp [go_sem]) ?_
 simp only [Act.put, List.setIfInBounds_toArray, List.set_cons_succ, List.set_cons_zero, if_true, ↓reduceIte]
 have Hp6 := Lib.hid hp6
 clear hp6
 generalize (if c1 = true then ((.pointer (some ⟨bx, 0, none⟩)) : Value) else undef) = u0
 generalize (if c1 = true then ((.int .i64 i0) : Value) else undef) = u1
 generalize (if c1 = true then ((.bool c2) : Value) else undef) = u2
 generalize (if p1 = true then ((.pointer (some ⟨bx, 0, none⟩)) : Value) else undef) = u3
 generalize (if p1 = true then ((.int .i64 i0) : Value) else undef) = u4
 generalize (if p1 = true then ((.pointer (some ⟨bx, 2, none⟩)) : Value) else undef) = u5
 generalize (if p1 = true then ((.int .i64 i2) : Value) else undef) = u6
 generalize (if p1 = true then ((.bool c3) : Value) else undef) = u7
 generalize (if p2 = true then ((.pointer (some ⟨bx, 1, none⟩)) : Value) else undef) = u8
 generalize (if p2 = true then ((.int .i64 i1) : Value) else undef) = u9
 generalize (if p2 = true then ((.bool c4) : Value) else undef) = u10
 generalize (if p3 = true then ((.pointer (some ⟨bx, 1, none⟩)) : Value) else undef) = u11
 generalize (if p3 = true then ((.int .i64 i1) : Value) else undef) = u12
 generalize (if p3 = true then ((.bool c5) : Value) else undef) = u13
 generalize (if p4 = true then ((.pointer (some ⟨bx, 2, none⟩)) : Value) else undef) = u14
 generalize (if p4 = true then ((.int .i64 i2) : Value) else undef) = u15
 generalize (if p4 = true then ((.bool c6) : Value) else undef) = u16
 generalize (if p5 = true then ((.int .i64 n) : Value) else undef) = u17
 generalize (if p5 = true then ((.bool c7) : Value) else undef) = u18
 have HC1 := Lib.hid hc1
 have HC2 := Lib.hid hc2
 have HC3 := Lib.hid hc3
 have HC4 := Lib.hid hc4
 have HC5 := Lib.hid hc5
 have HC6 := Lib.hid hc6
 have HC7 := Lib.hid hc7
 clear hc1 hc2 hc3 hc4 hc5 hc6 hc7
 have HP := Lib.hid (show p6 = true ↔ (0 ≤ f.f0 ∧ f.f0 ≤ (if f.f2 < 8 then f.f2 else 8) ∧ 0 ≤ f.f1 ∧ f.f1 ≤ 4 ∧ f.f2 ≤ 255 ∧ n ≤ 4096) by
  obtain ⟨a0, a1, a2⟩ := HF.out
  rw [Hp6.out, Hp5.out, Hp4.out, Hp3.out, Hp2.out, Hp1.out, ← HC1.out, ← HC2.out, ← HC3.out, ← HC4.out, ← HC5.out, ← HC6.out, ← HC7.out, a0, a1, a2]
  simp only [Bool.and_eq_true, decide_eq_true_eq]
  split <;> omega)
 clear Hp1 HC1 Hp2 HC2 Hp3 HC3 Hp4 HC4 Hp5 HC5 Hp6 HC6 HC7
 have HM := Lib.hid (mustR_any g v0 v1 l 0 p6 20 W HW.out)
 go_wp2_with fail
 refine HM.out.mono ?_
 rintro e w1 ⟨rfl, hk1, hw1⟩
 have HK1 := Lib.hid hk1
 have HW1 := Lib.hid hw1
 clear hk1 hw1
 obtain ⟨c8, hc8⟩ : ∃ b, decide (1 ≤ n) = b := ⟨_, rfl⟩
 have HC8 := Lib.hid hc8
 go_wp2_with fail
 refine (mustR_any g v0 v1 l _ c8 19 w1 HW1.out).mono ?_
 rintro e w2 ⟨rfl, hk2, hw2⟩
 have HK2 := Lib.hid (HK1.out.trans hk2)
 clear hk2 hc8
 obtain ⟨e2, he2⟩ : ∃ e2, e2 = stick (stick 0 p6 20) c8 19 := ⟨_, rfl⟩
 rw [← he2] at hw2
 have HE2 := Lib.hid he2
 have HW2 := Lib.hid hw2
 have q1 := blk_cell hw2 2
 have q2 := blk_cell hw2 3
 simp only [List.getElem?_toArray, List.getElem?_cons_succ, List.getElem?_cons_zero] at q1 q2
 clear he2 hw2
 have HX2 := Lib.hid ((HK2.out.block bx (blk_lt HX.out) (Ne.symm hgx)).trans HX.out)
 have z2 := blk_frozen HW2.out 2
 by_cases hz : e2 = 0
 ·subst hz
  have hpc : p6 = true ∧ c8 = true := by
   have := HE2.out
   cases p6 <;> cases c8 <;> simp [stick] at this ⊢
  obtain ⟨rfl, rfl⟩ := hpc
  have hcd := HP.out.1 rfl
  obtain ⟨a0, a1, a2⟩ := HF.out
  have h1n : 1 ≤ n := of_decide_eq_true HC8.out
  have hi2 : 0 ≤ i2 ∧ i2 ≤ 255 := by rw [a0, a1, a2] at hcd; have := hcd.2.1; split at this <;> omega
  have HQ2 := Lib.hid (show q = if l + i2 < 1048576 then .ok (l + i2) else .error 21 by rw [HQ.out, headQ, if_pos hcd, if_pos h1n, a2])
  have ce := blk_cell HX2.out 2
  simp only [List.getElem?_toArray, List.getElem?_cons_succ, List.getElem?_cons_zero] at ce
  have hw : IntKind.i64.wrap (l + i2) = l + i2 := by rw [IntKind.wrap_i64]; omega
  have hw' : IntKind.i64.wrap (l + i2 + 1) = l + i2 + 1 := by rw [IntKind.wrap_i64]; omega
  have hb3 := blk_put (w := w2.drew) HW2.out 2 (.int .i64 (l + i2)) rfl
  have k1 := blk_cell hb3 2
  simp only [List.getElem?_toArray, List.getElem?_cons_succ, List.getElem?_cons_zero, List.setIfInBounds_toArray, List.set_cons_succ, List.set_cons_zero] at k1
  have HM2 := Lib.hid (mustR_any g v0 v1 (l + i2) 0 (decide (l + i2 + 1 ≤ 1048576)) 21 (w2.drew.setCell ⟨g, 2, none⟩ (.int .i64 (l + i2))) hb3)
  clear hb3 hcd a0 a1 a2 h1n
  go_wp2_with fail
  go_region_with (fail)
  all_goals (
   go_wp2_with fail
   refine HM2.out.mono ?_
   rintro e w3 ⟨rfl, hk3, hw3⟩
   have HK3 := Lib.hid hk3
   have HW3 := Lib.hid hw3
   clear hk3 hw3
   go_wp2_with fail
   go_end0
   refine ⟨rfl, (Kept.of_below HB.out).trans (HK2.out.trans (Kept.trans (w1 := w2.drew.setCell ⟨g, 2, none⟩ (.int .i64 (l + i2))) (Kept.trans (w1 := w2.drew) ((Kept.of_below (Below.refl _ _)).drewN 1) (Kept.set _ _ _)) HK3.out)), ?_⟩
   rw [HQ2.out]
   by_cases h8 : l + i2 < 1048576
   ·rw [if_pos h8]
    have := HW3.out
    rw [decide_eq_true (show l + i2 + 1 ≤ 1048576 by omega)] at this
    exact this
   ·rw [if_neg h8]
    have := HW3.out
    rw [decide_eq_false (show ¬ l + i2 + 1 ≤ 1048576 by omega)] at this
    exact ⟨_, this⟩)
 ·have hb : (e2 == 0) = false := by simpa using hz
  have hw : IntKind.i64.wrap (l + 1) = l + 1 := by rw [IntKind.wrap_i64]; omega
  have HZ := Lib.hid hz
  have HM2 := Lib.hid (mustR_any g v0 v1 l e2 (decide (l + 1 ≤ 1048576)) 21 w2 HW2.out)
  have HQ2 := Lib.hid (show q = .error e2 by
   rw [HQ.out, HE2.out, headQ]
   cases hp6 : p6 with
   | false =>
    rw [if_neg (fun h => by rw [HP.out.2 h] at hp6; cases hp6)]
    cases c8 <;> rfl
   | true =>
    rw [if_pos (HP.out.1 hp6)]
    cases hc : c8 with
    | false => rw [if_neg (by have := HC8.out; rw [hc] at this; exact of_decide_eq_false this)]; rfl
    | true => exact absurd (by rw [HE2.out, hp6, hc]; rfl) hz)
  clear hz
  go_wp2_with fail
  refine HM2.out.mono ?_
  rintro e w3 ⟨rfl, hk3, hw3⟩
  have HK3 := Lib.hid hk3
  have HW3 := Lib.hid hw3
  clear hk3 hw3
  go_wp2_with fail
  go_end0
  refine ⟨rfl, (Kept.of_below HB.out).trans (HK2.out.trans HK3.out), ?_⟩
  rw [HQ2.out]
  have hs : stick e2 (decide (l + 1 ≤ 1048576)) 21 = e2 := by unfold stick; rw [if_neg HZ.out]; split <;> rfl
  have := HW3.out
  rw [hs] at this
  exact ⟨_, this⟩
theorem partStr_is (i : Int) : (!(partStr i).toList.isEmpty) = decide (1 ≤ i ∧ i < 18) := by
 by_cases h : 1 ≤ i ∧ i < 18
 ·rw [decide_eq_true h]
  have hk : i = 1 ∨ i = 2 ∨ i = 3 ∨ i = 4 ∨ i = 5 ∨ i = 6 ∨ i = 7 ∨ i = 8 ∨ i = 9 ∨ i = 10 ∨ i = 11 ∨ i = 12 ∨ i = 13 ∨ i = 14 ∨ i = 15 ∨ i = 16 ∨ i = 17 := by omega
  rcases hk with rfl | rfl | rfl | rfl | rfl | rfl | rfl | rfl | rfl | rfl | rfl | rfl | rfl | rfl | rfl | rfl | rfl <;> decide +kernel
 ·rw [decide_eq_false h, partStr_none i h]
  decide +kernel
def lastOk (x : Ins) (last : Bool) : Bool := decide (last = false ∨ x.f0 = 13 ∨ x.f0 = 15)
def opE (x : Ins) (last : Bool) (l' : Int) : Int := stick (stick (stick (stick 0 (!(partStr x.f0).toList.isEmpty) 12) (plainR x) 1) (lastOk x last) 19) (decide (l' + 1 ≤ 1048576)) 21
theorem opQ_range' {l m : Int} {x : Ins} {last : Bool} (h : opQ l x last = .ok m) (hl : 0 ≤ l ∧ l < 1048576) : 0 ≤ m ∧ m < 1048576 := by
 by_cases h1 : 1 ≤ x.f0 ∧ x.f0 < 18
 ·rw [opQ, if_pos h1] at h
  cases h2 : plainB (table.getD x.f0.toNat []) x with
  | false => rw [h2, if_neg (by decide)] at h; cases h
  | true =>
   rw [h2, if_pos rfl] at h
   by_cases h3 : last = false ∨ x.f0 = 13 ∨ x.f0 = 15
   ·rw [if_pos h3] at h
    by_cases h4 : x.f0 = 6
    ·rw [if_pos h4] at h
     by_cases h5 : l + 1 < 1048576
     ·rw [if_pos h5] at h
      injection h with h
      omega
     ·rw [if_neg h5] at h; cases h
    ·rw [if_neg h4] at h
     injection h with h
     omega
   ·rw [if_neg h3] at h; cases h
 ·rw [opQ, if_neg h1] at h; cases h
theorem opE_ok {x : Ins} {last : Bool} {l m : Int} (h : opQ l x last = .ok m) (hl : 0 ≤ l ∧ l < 1048576) : m = (if x.f0 = 6 then l + 1 else l) ∧ opE x last m = 0 := by
 have hr := opQ_range' h hl
 by_cases h1 : 1 ≤ x.f0 ∧ x.f0 < 18
 ·rw [opQ, if_pos h1] at h
  have hp := plainR_plain x h1
  cases h2 : plainB (table.getD x.f0.toNat []) x with
  | false => rw [h2, if_neg (by decide)] at h; cases h
  | true =>
   rw [h2, if_pos rfl] at h
   by_cases h3 : last = false ∨ x.f0 = 13 ∨ x.f0 = 15
   ·rw [if_pos h3] at h
    have hm : m = (if x.f0 = 6 then l + 1 else l) := by
     by_cases h4 : x.f0 = 6
     ·rw [if_pos h4] at h ⊢
      by_cases h5 : l + 1 < 1048576
      ·rw [if_pos h5] at h
       injection h with h
       exact h.symm
      ·rw [if_neg h5] at h; cases h
     ·rw [if_neg h4] at h ⊢
      injection h with h
      exact h.symm
    refine ⟨hm, ?_⟩
    rw [opE, partStr_is, decide_eq_true h1, hp, h2, lastOk, decide_eq_true h3, decide_eq_true (show m + 1 ≤ 1048576 by omega)]
    rfl
   ·rw [if_neg h3] at h; cases h
 ·rw [opQ, if_neg h1] at h; cases h
theorem opE_err {x : Ins} {last : Bool} {l err : Int} (h : opQ l x last = .error err) (hl : 0 ≤ l ∧ l < 1048576) : opE x last (if x.f0 = 6 then l + 1 else l) = err ∧ err ≠ 0 := by
 by_cases h1 : 1 ≤ x.f0 ∧ x.f0 < 18
 ·rw [opQ, if_pos h1] at h
  have hp := plainR_plain x h1
  cases h2 : plainB (table.getD x.f0.toNat []) x with
  | false =>
   rw [h2, if_neg (by decide)] at h
   injection h with h
   subst h
   rw [opE, partStr_is, decide_eq_true h1, hp, h2]
   constructor
   ·cases lastOk x last <;> cases decide ((if x.f0 = 6 then l + 1 else l) + 1 ≤ 1048576) <;> rfl
   ·decide
  | true =>
   rw [h2, if_pos rfl] at h
   by_cases h3 : last = false ∨ x.f0 = 13 ∨ x.f0 = 15
   ·rw [if_pos h3] at h
    by_cases h4 : x.f0 = 6
    ·rw [if_pos h4] at h ⊢
     by_cases h5 : l + 1 < 1048576
     ·rw [if_pos h5] at h; cases h
     ·rw [if_neg h5] at h
      injection h with h
      subst h
      rw [opE, partStr_is, decide_eq_true h1, hp, h2, lastOk, decide_eq_true h3, decide_eq_false (show ¬ l + 1 + 1 ≤ 1048576 by omega)]
      exact ⟨rfl, by decide⟩
    ·rw [if_neg h4] at h; cases h
   ·rw [if_neg h3] at h
    injection h with h
    subst h
    rw [opE, partStr_is, decide_eq_true h1, hp, h2, lastOk, decide_eq_false h3]
    constructor
    ·cases decide ((if x.f0 = 6 then l + 1 else l) + 1 ≤ 1048576) <;> rfl
    ·decide
 ·rw [opQ, if_neg h1] at h
  injection h with h
  subst h
  rw [opE, partStr_is, decide_eq_false h1]
  constructor
  ·cases plainR x <;> cases lastOk x last <;> cases decide ((if x.f0 = 6 then l + 1 else l) + 1 ≤ 1048576) <;> rfl
  ·decide
set_option maxRecDepth 100000 in
set_option maxHeartbeats 3200000 in
theorem opR_mid (g : Nat) (v0 v1 : Value) (l : Int) (x : Ins) (A5 : Option Addr) (c5 : Nat) (A6 : Option Addr) (c6 : Nat) (w : World) (h : WalkAt w g v0 v1 l 0) (hl : 0 ≤ l ∧ l < 1048576) (h6 : x.f0 ≠ 6) :
  Calls Tryz.prog 158 #[.pointer (some ⟨g, 0, none⟩), .agg #[.int .i64 x.f0, .int .i64 x.f1, .int .i64 x.f2, .int .i64 x.f3, .int .i64 x.f4, .slice A5 x.f5.length c5, .slice A6 x.f6.length c6], .bool false] w fun e w' => e = .returned (.tuple #[]) ∧ Kept g w w' ∧ WalkAt w' g v0 v1 l (opE x false l) := by
 have hlo : lastOk x false = true := by rw [lastOk]; simp; try omega
 have b6 : (x.f0 == 6) = false := by simp; omega
 have hE : opE x false l = stick (stick (stick (stick 0 (!(partStr x.f0).toList.isEmpty) 12) (plainR x) 1) (lastOk x false) 19) (decide (l + 1 ≤ 1048576)) 21 := rfl
 rw [hlo] at hE
 obtain ⟨eE, heE⟩ : ∃ eE, eE = opE x false l := ⟨_, rfl⟩
 rw [← heE]
 have HE := heE.trans hE
 have HP := Lib.hid (fun w => plainR_any x A5 c5 A6 c6 w)
 have HS := Lib.hid (fun w => parts_any x.f0 w)
 clear hE heE hlo h6
 generalize plainR x = c2 at HE HP
 generalize partStr x.f0 = s at HE HS
 generalize x.f0 = i0 at *
 generalize x.f1 = i1 at *
 generalize x.f2 = i2 at *
 generalize x.f3 = i3 at *
 generalize x.f4 = i4 at *
 generalize x.f5.length = n5 at *
 generalize x.f6.length = n6 at *
 obtain ⟨c1, hc1⟩ : ∃ b, (!s.toList.isEmpty) = b := ⟨_, rfl⟩
 rw [hc1] at HE
 have hc1' := hc1
 replace HE := Lib.hid HE
 have hx := alloc_new w (.cells #[.int .i64 i0, .int .i64 i1, .int .i64 i2, .int .i64 i3, .int .i64 i4, .slice A5 n5 c5, .slice A6 n6 c6] 79)
 have hb := below1 w (.cells #[.int .i64 i0, .int .i64 i1, .int .i64 i2, .int .i64 i3, .int .i64 i4, .slice A5 n5 c5, .slice A6 n6 c6] 79)
 have hw := walk_below h hb
 have hg0 : g ≠ w.heap.size := Nat.ne_of_lt (blk_lt h)
 have HB := Lib.hid hb
 have HW := Lib.hid hw
 have HX := Lib.hid hx
 have HL := Lib.hid hl
 clear hx hb hw h hl hc1
 go_enter Tryz.func158, Tryz.ntmps158
 go_wp2_with fail
 refine (HS.out _).mono ?_
 rintro e w1 ⟨rfl, hb1⟩
 have HB1 := Lib.hid (HB.out.trans (hb1.mono HB.out.size))
 have HW1 := Lib.hid (walk_below HW.out hb1)
 have HX1 := Lib.hid ((hb1.block _ (blk_lt HX.out)).trans HX.out)
 clear hb1 HW HX HB
 go_wp2_with fail
 refine (mustR_any g v0 v1 l 0 c1 12 w1 HW1.out).mono ?_
 rintro e w2 ⟨rfl, hk2, hw2⟩
 have HK2 := Lib.hid ((Kept.of_below HB1.out).trans hk2)
 have HX2 := Lib.hid ((hk2.block _ (blk_lt HX1.out) (Ne.symm hg0)).trans HX1.out)
 have HW2 := Lib.hid hw2
 clear hk2 hw2 hc1' HB1 HX1
 have y0 := blk_cell HX2.out 0
 have y1 := blk_cell HX2.out 1
 have y2 := blk_cell HX2.out 2
 have y3 := blk_cell HX2.out 3
 have y4 := blk_cell HX2.out 4
 have y5 := blk_cell HX2.out 5
 have y6 := blk_cell HX2.out 6
 simp only [List.getElem?_toArray, List.getElem?_cons_succ, List.getElem?_cons_zero] at y0 y1 y2 y3 y4 y5 y6
 go_wp2_with fail
 refine (HP.out w2).mono ?_
 rintro e w3 ⟨rfl, hb3⟩
 have HK3 := Lib.hid (HK2.out.trans (Kept.of_below hb3))
 have HW3 := Lib.hid (walk_below HW2.out hb3)
 have HX3 := Lib.hid ((hb3.block _ (blk_lt HX2.out)).trans HX2.out)
 clear hb3 y0 y1 y2 y3 y4 y5 y6 HK2 HX2
 go_wp2_with fail
 refine (mustR_any g v0 v1 l _ c2 1 w3 HW3.out).mono ?_
 rintro e w4 ⟨rfl, hk4, hw4⟩
 have HK4 := Lib.hid (HK3.out.trans hk4)
 have HX4 := Lib.hid ((hk4.block _ (blk_lt HX3.out) (Ne.symm hg0)).trans HX3.out)
 have HW4 := Lib.hid hw4
 clear hk4 hw4 HK3 HX3
 have y0 := blk_cell HX4.out 0
 simp only [List.getElem?_toArray, List.getElem?_cons_zero] at y0
 go_wp2_with fail
 refine (mustR_any g v0 v1 l _ true 19 w4 HW4.out).mono ?_
 rintro e w5 ⟨rfl, hk5, hw5⟩
 have HK5 := Lib.hid (HK4.out.trans hk5)
 have HX5 := Lib.hid ((hk5.block _ (blk_lt HX4.out) (Ne.symm hg0)).trans HX4.out)
 have HW5 := Lib.hid hw5
 clear hk5 hw5 y0 HK4 HX4
 have y0 := blk_cell HX5.out 0
 have q2 := blk_cell HW5.out 2
 have z2 := blk_frozen HW5.out 2
 simp only [List.getElem?_toArray, List.getElem?_cons_succ, List.getElem?_cons_zero] at y0 q2
 have hwr : IntKind.i64.wrap (l + 1) = l + 1 := by rw [IntKind.wrap_i64]; have := HL.out; omega
 go_wp2_with fail
 refine (mustR_any g v0 v1 l _ (decide (l + 1 ≤ 1048576)) 21 w5 HW5.out).mono ?_
 rintro e w6 ⟨rfl, hk6, hw6⟩
 have HK6 := Lib.hid (HK5.out.trans hk6)
 have HW6 := Lib.hid hw6
 clear hk6 hw6
 go_wp2_with fail
 go_end0
 exact ⟨rfl, HK6.out, by rw [HE.out]; exact HW6.out⟩
set_option maxRecDepth 100000 in
set_option maxHeartbeats 3200000 in
theorem opR_new (g : Nat) (v0 v1 : Value) (l : Int) (x : Ins) (A5 : Option Addr) (c5 : Nat) (A6 : Option Addr) (c6 : Nat) (w : World) (h : WalkAt w g v0 v1 l 0) (hl : 0 ≤ l ∧ l < 1048576) (h6 : x.f0 = 6) :
  Calls Tryz.prog 158 #[.pointer (some ⟨g, 0, none⟩), .agg #[.int .i64 x.f0, .int .i64 x.f1, .int .i64 x.f2, .int .i64 x.f3, .int .i64 x.f4, .slice A5 x.f5.length c5, .slice A6 x.f6.length c6], .bool false] w fun e w' => e = .returned (.tuple #[]) ∧ Kept g w w' ∧ WalkAt w' g v0 v1 (l + 1) (opE x false (l + 1)) := by
 have hlo : lastOk x false = true := by rw [lastOk]; simp; try omega
 have b6 : (x.f0 == 6) = true := by simp; omega
 have hE : opE x false (l + 1) = stick (stick (stick (stick 0 (!(partStr x.f0).toList.isEmpty) 12) (plainR x) 1) (lastOk x false) 19) (decide ((l + 1) + 1 ≤ 1048576)) 21 := rfl
 rw [hlo] at hE
 obtain ⟨eE, heE⟩ : ∃ eE, eE = opE x false (l + 1) := ⟨_, rfl⟩
 rw [← heE]
 have HE := heE.trans hE
 have HP := Lib.hid (fun w => plainR_any x A5 c5 A6 c6 w)
 have HS := Lib.hid (fun w => parts_any x.f0 w)
 clear hE heE hlo h6
 generalize plainR x = c2 at HE HP
 generalize partStr x.f0 = s at HE HS
 generalize x.f0 = i0 at *
 generalize x.f1 = i1 at *
 generalize x.f2 = i2 at *
 generalize x.f3 = i3 at *
 generalize x.f4 = i4 at *
 generalize x.f5.length = n5 at *
 generalize x.f6.length = n6 at *
 obtain ⟨c1, hc1⟩ : ∃ b, (!s.toList.isEmpty) = b := ⟨_, rfl⟩
 rw [hc1] at HE
 have hc1' := hc1
 replace HE := Lib.hid HE
 have hx := alloc_new w (.cells #[.int .i64 i0, .int .i64 i1, .int .i64 i2, .int .i64 i3, .int .i64 i4, .slice A5 n5 c5, .slice A6 n6 c6] 79)
 have hb := below1 w (.cells #[.int .i64 i0, .int .i64 i1, .int .i64 i2, .int .i64 i3, .int .i64 i4, .slice A5 n5 c5, .slice A6 n6 c6] 79)
 have hw := walk_below h hb
 have hg0 : g ≠ w.heap.size := Nat.ne_of_lt (blk_lt h)
 have HB := Lib.hid hb
 have HW := Lib.hid hw
 have HX := Lib.hid hx
 have HL := Lib.hid hl
 clear hx hb hw h hl hc1
 go_enter Tryz.func158, Tryz.ntmps158
 go_wp2_with fail
 refine (HS.out _).mono ?_
 rintro e w1 ⟨rfl, hb1⟩
 have HB1 := Lib.hid (HB.out.trans (hb1.mono HB.out.size))
 have HW1 := Lib.hid (walk_below HW.out hb1)
 have HX1 := Lib.hid ((hb1.block _ (blk_lt HX.out)).trans HX.out)
 clear hb1 HW HX HB
 go_wp2_with fail
 refine (mustR_any g v0 v1 l 0 c1 12 w1 HW1.out).mono ?_
 rintro e w2 ⟨rfl, hk2, hw2⟩
 have HK2 := Lib.hid ((Kept.of_below HB1.out).trans hk2)
 have HX2 := Lib.hid ((hk2.block _ (blk_lt HX1.out) (Ne.symm hg0)).trans HX1.out)
 have HW2 := Lib.hid hw2
 clear hk2 hw2 hc1' HB1 HX1
 have y0 := blk_cell HX2.out 0
 have y1 := blk_cell HX2.out 1
 have y2 := blk_cell HX2.out 2
 have y3 := blk_cell HX2.out 3
 have y4 := blk_cell HX2.out 4
 have y5 := blk_cell HX2.out 5
 have y6 := blk_cell HX2.out 6
 simp only [List.getElem?_toArray, List.getElem?_cons_succ, List.getElem?_cons_zero] at y0 y1 y2 y3 y4 y5 y6
 go_wp2_with fail
 refine (HP.out w2).mono ?_
 rintro e w3 ⟨rfl, hb3⟩
 have HK3 := Lib.hid (HK2.out.trans (Kept.of_below hb3))
 have HW3 := Lib.hid (walk_below HW2.out hb3)
 have HX3 := Lib.hid ((hb3.block _ (blk_lt HX2.out)).trans HX2.out)
 clear hb3 y0 y1 y2 y3 y4 y5 y6 HK2 HX2
 go_wp2_with fail
 refine (mustR_any g v0 v1 l _ c2 1 w3 HW3.out).mono ?_
 rintro e w4 ⟨rfl, hk4, hw4⟩
 have HK4 := Lib.hid (HK3.out.trans hk4)
 have HX4 := Lib.hid ((hk4.block _ (blk_lt HX3.out) (Ne.symm hg0)).trans HX3.out)
 have HW4 := Lib.hid hw4
 clear hk4 hw4 HK3 HX3
 have y0 := blk_cell HX4.out 0
 simp only [List.getElem?_toArray, List.getElem?_cons_zero] at y0
 go_wp2_with fail
 refine (mustR_any g v0 v1 l _ true 19 w4 HW4.out).mono ?_
 rintro e w5 ⟨rfl, hk5, hw5⟩
 have HK5 := Lib.hid (HK4.out.trans hk5)
 have HX5 := Lib.hid ((hk5.block _ (blk_lt HX4.out) (Ne.symm hg0)).trans HX4.out)
 have HW5 := Lib.hid hw5
 clear hk5 hw5 y0 HK4 HX4
 have y0 := blk_cell HX5.out 0
 have q2 := blk_cell HW5.out 2
 have z2 := blk_frozen HW5.out 2
 simp only [List.getElem?_toArray, List.getElem?_cons_succ, List.getElem?_cons_zero] at y0 q2
 have hwr : IntKind.i64.wrap (l + 1) = l + 1 := by rw [IntKind.wrap_i64]; have := HL.out; omega
 have hwr2 : IntKind.i64.wrap (l + 1 + 1) = l + 1 + 1 := by rw [IntKind.wrap_i64]; have := HL.out; omega
 have hb6 := blk_put HW5.out 2 (.int .i64 (l + 1)) rfl
 have r2 := blk_cell hb6 2
 simp only [List.getElem?_toArray, List.getElem?_cons_succ, List.getElem?_cons_zero, List.setIfInBounds_toArray, List.set_cons_succ, List.set_cons_zero] at r2
 have HM := Lib.hid (mustR_any g v0 v1 (l + 1) _ (decide (l + 1 + 1 ≤ 1048576)) 21 (w5.setCell ⟨g, 2, none⟩ (.int .i64 (l + 1))) hb6)
 clear hb6
 go_wp2_with fail
 refine HM.out.mono ?_
 rintro e w6 ⟨rfl, hk6, hw6⟩
 have HK6 := Lib.hid (HK5.out.trans ((Kept.set w5 2 _).trans hk6))
 have HW6 := Lib.hid hw6
 clear hk6 hw6
 go_wp2_with fail
 go_end0
 exact ⟨rfl, HK6.out, by rw [HE.out]; exact HW6.out⟩
set_option maxRecDepth 100000 in
set_option maxHeartbeats 3200000 in
theorem opR_jump (g : Nat) (v0 v1 : Value) (l : Int) (x : Ins) (A5 : Option Addr) (c5 : Nat) (A6 : Option Addr) (c6 : Nat) (w : World) (h : WalkAt w g v0 v1 l 0) (hl : 0 ≤ l ∧ l < 1048576) (h6 : x.f0 = 13) :
  Calls Tryz.prog 158 #[.pointer (some ⟨g, 0, none⟩), .agg #[.int .i64 x.f0, .int .i64 x.f1, .int .i64 x.f2, .int .i64 x.f3, .int .i64 x.f4, .slice A5 x.f5.length c5, .slice A6 x.f6.length c6], .bool true] w fun e w' => e = .returned (.tuple #[]) ∧ Kept g w w' ∧ WalkAt w' g v0 v1 l (opE x true l) := by
 have hlo : lastOk x true = true := by rw [lastOk]; simp; try omega
 have b13 : (x.f0 == 13) = true := by simp; omega
 have b6 : (x.f0 == 6) = false := by simp; omega
 have hE : opE x true l = stick (stick (stick (stick 0 (!(partStr x.f0).toList.isEmpty) 12) (plainR x) 1) (lastOk x true) 19) (decide (l + 1 ≤ 1048576)) 21 := rfl
 rw [hlo] at hE
 obtain ⟨eE, heE⟩ : ∃ eE, eE = opE x true l := ⟨_, rfl⟩
 rw [← heE]
 have HE := heE.trans hE
 have HP := Lib.hid (fun w => plainR_any x A5 c5 A6 c6 w)
 have HS := Lib.hid (fun w => parts_any x.f0 w)
 clear hE heE hlo h6
 generalize plainR x = c2 at HE HP
 generalize partStr x.f0 = s at HE HS
 generalize x.f0 = i0 at *
 generalize x.f1 = i1 at *
 generalize x.f2 = i2 at *
 generalize x.f3 = i3 at *
 generalize x.f4 = i4 at *
 generalize x.f5.length = n5 at *
 generalize x.f6.length = n6 at *
 obtain ⟨c1, hc1⟩ : ∃ b, (!s.toList.isEmpty) = b := ⟨_, rfl⟩
 rw [hc1] at HE
 have hc1' := hc1
 replace HE := Lib.hid HE
 have hx := alloc_new w (.cells #[.int .i64 i0, .int .i64 i1, .int .i64 i2, .int .i64 i3, .int .i64 i4, .slice A5 n5 c5, .slice A6 n6 c6] 79)
 have hb := below1 w (.cells #[.int .i64 i0, .int .i64 i1, .int .i64 i2, .int .i64 i3, .int .i64 i4, .slice A5 n5 c5, .slice A6 n6 c6] 79)
 have hw := walk_below h hb
 have hg0 : g ≠ w.heap.size := Nat.ne_of_lt (blk_lt h)
 have HB := Lib.hid hb
 have HW := Lib.hid hw
 have HX := Lib.hid hx
 have HL := Lib.hid hl
 clear hx hb hw h hl hc1
 go_enter Tryz.func158, Tryz.ntmps158
 go_wp2_with fail
 refine (HS.out _).mono ?_
 rintro e w1 ⟨rfl, hb1⟩
 have HB1 := Lib.hid (HB.out.trans (hb1.mono HB.out.size))
 have HW1 := Lib.hid (walk_below HW.out hb1)
 have HX1 := Lib.hid ((hb1.block _ (blk_lt HX.out)).trans HX.out)
 clear hb1 HW HX HB
 go_wp2_with fail
 refine (mustR_any g v0 v1 l 0 c1 12 w1 HW1.out).mono ?_
 rintro e w2 ⟨rfl, hk2, hw2⟩
 have HK2 := Lib.hid ((Kept.of_below HB1.out).trans hk2)
 have HX2 := Lib.hid ((hk2.block _ (blk_lt HX1.out) (Ne.symm hg0)).trans HX1.out)
 have HW2 := Lib.hid hw2
 clear hk2 hw2 hc1' HB1 HX1
 have y0 := blk_cell HX2.out 0
 have y1 := blk_cell HX2.out 1
 have y2 := blk_cell HX2.out 2
 have y3 := blk_cell HX2.out 3
 have y4 := blk_cell HX2.out 4
 have y5 := blk_cell HX2.out 5
 have y6 := blk_cell HX2.out 6
 simp only [List.getElem?_toArray, List.getElem?_cons_succ, List.getElem?_cons_zero] at y0 y1 y2 y3 y4 y5 y6
 go_wp2_with fail
 refine (HP.out w2).mono ?_
 rintro e w3 ⟨rfl, hb3⟩
 have HK3 := Lib.hid (HK2.out.trans (Kept.of_below hb3))
 have HW3 := Lib.hid (walk_below HW2.out hb3)
 have HX3 := Lib.hid ((hb3.block _ (blk_lt HX2.out)).trans HX2.out)
 clear hb3 y0 y1 y2 y3 y4 y5 y6 HK2 HX2
 go_wp2_with fail
 refine (mustR_any g v0 v1 l _ c2 1 w3 HW3.out).mono ?_
 rintro e w4 ⟨rfl, hk4, hw4⟩
 have HK4 := Lib.hid (HK3.out.trans hk4)
 have HX4 := Lib.hid ((hk4.block _ (blk_lt HX3.out) (Ne.symm hg0)).trans HX3.out)
 have HW4 := Lib.hid hw4
 clear hk4 hw4 HK3 HX3
 have y0 := blk_cell HX4.out 0
 simp only [List.getElem?_toArray, List.getElem?_cons_zero] at y0
 go_wp2_with fail
 refine (mustR_any g v0 v1 l _ true 19 w4 HW4.out).mono ?_
 rintro e w5 ⟨rfl, hk5, hw5⟩
 have HK5 := Lib.hid (HK4.out.trans hk5)
 have HX5 := Lib.hid ((hk5.block _ (blk_lt HX4.out) (Ne.symm hg0)).trans HX4.out)
 have HW5 := Lib.hid hw5
 clear hk5 hw5 y0 HK4 HX4
 have y0 := blk_cell HX5.out 0
 have q2 := blk_cell HW5.out 2
 have z2 := blk_frozen HW5.out 2
 simp only [List.getElem?_toArray, List.getElem?_cons_succ, List.getElem?_cons_zero] at y0 q2
 have hwr : IntKind.i64.wrap (l + 1) = l + 1 := by rw [IntKind.wrap_i64]; have := HL.out; omega
 go_wp2_with fail
 refine (mustR_any g v0 v1 l _ (decide (l + 1 ≤ 1048576)) 21 w5 HW5.out).mono ?_
 rintro e w6 ⟨rfl, hk6, hw6⟩
 have HK6 := Lib.hid (HK5.out.trans hk6)
 have HW6 := Lib.hid hw6
 clear hk6 hw6
 go_wp2_with fail
 go_end0
 exact ⟨rfl, HK6.out, by rw [HE.out]; exact HW6.out⟩
set_option maxRecDepth 100000 in
set_option maxHeartbeats 3200000 in
theorem opR_ret (g : Nat) (v0 v1 : Value) (l : Int) (x : Ins) (A5 : Option Addr) (c5 : Nat) (A6 : Option Addr) (c6 : Nat) (w : World) (h : WalkAt w g v0 v1 l 0) (hl : 0 ≤ l ∧ l < 1048576) (h6 : x.f0 = 15) :
  Calls Tryz.prog 158 #[.pointer (some ⟨g, 0, none⟩), .agg #[.int .i64 x.f0, .int .i64 x.f1, .int .i64 x.f2, .int .i64 x.f3, .int .i64 x.f4, .slice A5 x.f5.length c5, .slice A6 x.f6.length c6], .bool true] w fun e w' => e = .returned (.tuple #[]) ∧ Kept g w w' ∧ WalkAt w' g v0 v1 l (opE x true l) := by
 have hlo : lastOk x true = true := by rw [lastOk]; simp; try omega
 have b13 : (x.f0 == 13) = false := by simp; omega
 have b15 : (x.f0 == 15) = true := by simp; omega
 have b6 : (x.f0 == 6) = false := by simp; omega
 have hE : opE x true l = stick (stick (stick (stick 0 (!(partStr x.f0).toList.isEmpty) 12) (plainR x) 1) (lastOk x true) 19) (decide (l + 1 ≤ 1048576)) 21 := rfl
 rw [hlo] at hE
 obtain ⟨eE, heE⟩ : ∃ eE, eE = opE x true l := ⟨_, rfl⟩
 rw [← heE]
 have HE := heE.trans hE
 have HP := Lib.hid (fun w => plainR_any x A5 c5 A6 c6 w)
 have HS := Lib.hid (fun w => parts_any x.f0 w)
 clear hE heE hlo h6
 generalize plainR x = c2 at HE HP
 generalize partStr x.f0 = s at HE HS
 generalize x.f0 = i0 at *
 generalize x.f1 = i1 at *
 generalize x.f2 = i2 at *
 generalize x.f3 = i3 at *
 generalize x.f4 = i4 at *
 generalize x.f5.length = n5 at *
 generalize x.f6.length = n6 at *
 obtain ⟨c1, hc1⟩ : ∃ b, (!s.toList.isEmpty) = b := ⟨_, rfl⟩
 rw [hc1] at HE
 have hc1' := hc1
 replace HE := Lib.hid HE
 have hx := alloc_new w (.cells #[.int .i64 i0, .int .i64 i1, .int .i64 i2, .int .i64 i3, .int .i64 i4, .slice A5 n5 c5, .slice A6 n6 c6] 79)
 have hb := below1 w (.cells #[.int .i64 i0, .int .i64 i1, .int .i64 i2, .int .i64 i3, .int .i64 i4, .slice A5 n5 c5, .slice A6 n6 c6] 79)
 have hw := walk_below h hb
 have hg0 : g ≠ w.heap.size := Nat.ne_of_lt (blk_lt h)
 have HB := Lib.hid hb
 have HW := Lib.hid hw
 have HX := Lib.hid hx
 have HL := Lib.hid hl
 clear hx hb hw h hl hc1
 go_enter Tryz.func158, Tryz.ntmps158
 go_wp2_with fail
 refine (HS.out _).mono ?_
 rintro e w1 ⟨rfl, hb1⟩
 have HB1 := Lib.hid (HB.out.trans (hb1.mono HB.out.size))
 have HW1 := Lib.hid (walk_below HW.out hb1)
 have HX1 := Lib.hid ((hb1.block _ (blk_lt HX.out)).trans HX.out)
 clear hb1 HW HX HB
 go_wp2_with fail
 refine (mustR_any g v0 v1 l 0 c1 12 w1 HW1.out).mono ?_
 rintro e w2 ⟨rfl, hk2, hw2⟩
 have HK2 := Lib.hid ((Kept.of_below HB1.out).trans hk2)
 have HX2 := Lib.hid ((hk2.block _ (blk_lt HX1.out) (Ne.symm hg0)).trans HX1.out)
 have HW2 := Lib.hid hw2
 clear hk2 hw2 hc1' HB1 HX1
 have y0 := blk_cell HX2.out 0
 have y1 := blk_cell HX2.out 1
 have y2 := blk_cell HX2.out 2
 have y3 := blk_cell HX2.out 3
 have y4 := blk_cell HX2.out 4
 have y5 := blk_cell HX2.out 5
 have y6 := blk_cell HX2.out 6
 simp only [List.getElem?_toArray, List.getElem?_cons_succ, List.getElem?_cons_zero] at y0 y1 y2 y3 y4 y5 y6
 go_wp2_with fail
 refine (HP.out w2).mono ?_
 rintro e w3 ⟨rfl, hb3⟩
 have HK3 := Lib.hid (HK2.out.trans (Kept.of_below hb3))
 have HW3 := Lib.hid (walk_below HW2.out hb3)
 have HX3 := Lib.hid ((hb3.block _ (blk_lt HX2.out)).trans HX2.out)
 clear hb3 y0 y1 y2 y3 y4 y5 y6 HK2 HX2
 go_wp2_with fail
 refine (mustR_any g v0 v1 l _ c2 1 w3 HW3.out).mono ?_
 rintro e w4 ⟨rfl, hk4, hw4⟩
 have HK4 := Lib.hid (HK3.out.trans hk4)
 have HX4 := Lib.hid ((hk4.block _ (blk_lt HX3.out) (Ne.symm hg0)).trans HX3.out)
 have HW4 := Lib.hid hw4
 clear hk4 hw4 HK3 HX3
 have y0 := blk_cell HX4.out 0
 simp only [List.getElem?_toArray, List.getElem?_cons_zero] at y0
 go_wp2_with fail
 refine (mustR_any g v0 v1 l _ true 19 w4 HW4.out).mono ?_
 rintro e w5 ⟨rfl, hk5, hw5⟩
 have HK5 := Lib.hid (HK4.out.trans hk5)
 have HX5 := Lib.hid ((hk5.block _ (blk_lt HX4.out) (Ne.symm hg0)).trans HX4.out)
 have HW5 := Lib.hid hw5
 clear hk5 hw5 y0 HK4 HX4
 have y0 := blk_cell HX5.out 0
 have q2 := blk_cell HW5.out 2
 have z2 := blk_frozen HW5.out 2
 simp only [List.getElem?_toArray, List.getElem?_cons_succ, List.getElem?_cons_zero] at y0 q2
 have hwr : IntKind.i64.wrap (l + 1) = l + 1 := by rw [IntKind.wrap_i64]; have := HL.out; omega
 go_wp2_with fail
 refine (mustR_any g v0 v1 l _ (decide (l + 1 ≤ 1048576)) 21 w5 HW5.out).mono ?_
 rintro e w6 ⟨rfl, hk6, hw6⟩
 have HK6 := Lib.hid (HK5.out.trans hk6)
 have HW6 := Lib.hid hw6
 clear hk6 hw6
 go_wp2_with fail
 go_end0
 exact ⟨rfl, HK6.out, by rw [HE.out]; exact HW6.out⟩
set_option maxRecDepth 100000 in
set_option maxHeartbeats 3200000 in
theorem opR_openNew (g : Nat) (v0 v1 : Value) (l : Int) (x : Ins) (A5 : Option Addr) (c5 : Nat) (A6 : Option Addr) (c6 : Nat) (w : World) (h : WalkAt w g v0 v1 l 0) (hl : 0 ≤ l ∧ l < 1048576) (h6 : x.f0 = 6) :
  Calls Tryz.prog 158 #[.pointer (some ⟨g, 0, none⟩), .agg #[.int .i64 x.f0, .int .i64 x.f1, .int .i64 x.f2, .int .i64 x.f3, .int .i64 x.f4, .slice A5 x.f5.length c5, .slice A6 x.f6.length c6], .bool true] w fun e w' => e = .returned (.tuple #[]) ∧ Kept g w w' ∧ WalkAt w' g v0 v1 (l + 1) (opE x true (l + 1)) := by
 have hlo : lastOk x true = false := by rw [lastOk]; simp; try omega
 have b13 : (x.f0 == 13) = false := by simp; omega
 have b15 : (x.f0 == 15) = false := by simp; omega
 have b6 : (x.f0 == 6) = true := by simp; omega
 have hE : opE x true (l + 1) = stick (stick (stick (stick 0 (!(partStr x.f0).toList.isEmpty) 12) (plainR x) 1) (lastOk x true) 19) (decide ((l + 1) + 1 ≤ 1048576)) 21 := rfl
 rw [hlo] at hE
 obtain ⟨eE, heE⟩ : ∃ eE, eE = opE x true (l + 1) := ⟨_, rfl⟩
 rw [← heE]
 have HE := heE.trans hE
 have HP := Lib.hid (fun w => plainR_any x A5 c5 A6 c6 w)
 have HS := Lib.hid (fun w => parts_any x.f0 w)
 clear hE heE hlo h6
 generalize plainR x = c2 at HE HP
 generalize partStr x.f0 = s at HE HS
 generalize x.f0 = i0 at *
 generalize x.f1 = i1 at *
 generalize x.f2 = i2 at *
 generalize x.f3 = i3 at *
 generalize x.f4 = i4 at *
 generalize x.f5.length = n5 at *
 generalize x.f6.length = n6 at *
 obtain ⟨c1, hc1⟩ : ∃ b, (!s.toList.isEmpty) = b := ⟨_, rfl⟩
 rw [hc1] at HE
 have hc1' := hc1
 replace HE := Lib.hid HE
 have hx := alloc_new w (.cells #[.int .i64 i0, .int .i64 i1, .int .i64 i2, .int .i64 i3, .int .i64 i4, .slice A5 n5 c5, .slice A6 n6 c6] 79)
 have hb := below1 w (.cells #[.int .i64 i0, .int .i64 i1, .int .i64 i2, .int .i64 i3, .int .i64 i4, .slice A5 n5 c5, .slice A6 n6 c6] 79)
 have hw := walk_below h hb
 have hg0 : g ≠ w.heap.size := Nat.ne_of_lt (blk_lt h)
 have HB := Lib.hid hb
 have HW := Lib.hid hw
 have HX := Lib.hid hx
 have HL := Lib.hid hl
 clear hx hb hw h hl hc1
 go_enter Tryz.func158, Tryz.ntmps158
 go_wp2_with fail
 refine (HS.out _).mono ?_
 rintro e w1 ⟨rfl, hb1⟩
 have HB1 := Lib.hid (HB.out.trans (hb1.mono HB.out.size))
 have HW1 := Lib.hid (walk_below HW.out hb1)
 have HX1 := Lib.hid ((hb1.block _ (blk_lt HX.out)).trans HX.out)
 clear hb1 HW HX HB
 go_wp2_with fail
 refine (mustR_any g v0 v1 l 0 c1 12 w1 HW1.out).mono ?_
 rintro e w2 ⟨rfl, hk2, hw2⟩
 have HK2 := Lib.hid ((Kept.of_below HB1.out).trans hk2)
 have HX2 := Lib.hid ((hk2.block _ (blk_lt HX1.out) (Ne.symm hg0)).trans HX1.out)
 have HW2 := Lib.hid hw2
 clear hk2 hw2 hc1' HB1 HX1
 have y0 := blk_cell HX2.out 0
 have y1 := blk_cell HX2.out 1
 have y2 := blk_cell HX2.out 2
 have y3 := blk_cell HX2.out 3
 have y4 := blk_cell HX2.out 4
 have y5 := blk_cell HX2.out 5
 have y6 := blk_cell HX2.out 6
 simp only [List.getElem?_toArray, List.getElem?_cons_succ, List.getElem?_cons_zero] at y0 y1 y2 y3 y4 y5 y6
 go_wp2_with fail
 refine (HP.out w2).mono ?_
 rintro e w3 ⟨rfl, hb3⟩
 have HK3 := Lib.hid (HK2.out.trans (Kept.of_below hb3))
 have HW3 := Lib.hid (walk_below HW2.out hb3)
 have HX3 := Lib.hid ((hb3.block _ (blk_lt HX2.out)).trans HX2.out)
 clear hb3 y0 y1 y2 y3 y4 y5 y6 HK2 HX2
 go_wp2_with fail
 refine (mustR_any g v0 v1 l _ c2 1 w3 HW3.out).mono ?_
 rintro e w4 ⟨rfl, hk4, hw4⟩
 have HK4 := Lib.hid (HK3.out.trans hk4)
 have HX4 := Lib.hid ((hk4.block _ (blk_lt HX3.out) (Ne.symm hg0)).trans HX3.out)
 have HW4 := Lib.hid hw4
 clear hk4 hw4 HK3 HX3
 have y0 := blk_cell HX4.out 0
 simp only [List.getElem?_toArray, List.getElem?_cons_zero] at y0
 go_wp2_with fail
 refine (mustR_any g v0 v1 l _ false 19 w4 HW4.out).mono ?_
 rintro e w5 ⟨rfl, hk5, hw5⟩
 have HK5 := Lib.hid (HK4.out.trans hk5)
 have HX5 := Lib.hid ((hk5.block _ (blk_lt HX4.out) (Ne.symm hg0)).trans HX4.out)
 have HW5 := Lib.hid hw5
 clear hk5 hw5 y0 HK4 HX4
 have y0 := blk_cell HX5.out 0
 have q2 := blk_cell HW5.out 2
 have z2 := blk_frozen HW5.out 2
 simp only [List.getElem?_toArray, List.getElem?_cons_succ, List.getElem?_cons_zero] at y0 q2
 have hwr : IntKind.i64.wrap (l + 1) = l + 1 := by rw [IntKind.wrap_i64]; have := HL.out; omega
 have hwr2 : IntKind.i64.wrap (l + 1 + 1) = l + 1 + 1 := by rw [IntKind.wrap_i64]; have := HL.out; omega
 have hb6 := blk_put HW5.out 2 (.int .i64 (l + 1)) rfl
 have r2 := blk_cell hb6 2
 simp only [List.getElem?_toArray, List.getElem?_cons_succ, List.getElem?_cons_zero, List.setIfInBounds_toArray, List.set_cons_succ, List.set_cons_zero] at r2
 have HM := Lib.hid (mustR_any g v0 v1 (l + 1) _ (decide (l + 1 + 1 ≤ 1048576)) 21 (w5.setCell ⟨g, 2, none⟩ (.int .i64 (l + 1))) hb6)
 clear hb6
 go_wp2_with fail
 refine HM.out.mono ?_
 rintro e w6 ⟨rfl, hk6, hw6⟩
 have HK6 := Lib.hid (HK5.out.trans ((Kept.set w5 2 _).trans hk6))
 have HW6 := Lib.hid hw6
 clear hk6 hw6
 go_wp2_with fail
 go_end0
 exact ⟨rfl, HK6.out, by rw [HE.out]; exact HW6.out⟩
set_option maxRecDepth 100000 in
set_option maxHeartbeats 3200000 in
theorem opR_open (g : Nat) (v0 v1 : Value) (l : Int) (x : Ins) (A5 : Option Addr) (c5 : Nat) (A6 : Option Addr) (c6 : Nat) (w : World) (h : WalkAt w g v0 v1 l 0) (hl : 0 ≤ l ∧ l < 1048576) (h6 : x.f0 ≠ 6 ∧ x.f0 ≠ 13 ∧ x.f0 ≠ 15) :
  Calls Tryz.prog 158 #[.pointer (some ⟨g, 0, none⟩), .agg #[.int .i64 x.f0, .int .i64 x.f1, .int .i64 x.f2, .int .i64 x.f3, .int .i64 x.f4, .slice A5 x.f5.length c5, .slice A6 x.f6.length c6], .bool true] w fun e w' => e = .returned (.tuple #[]) ∧ Kept g w w' ∧ WalkAt w' g v0 v1 l (opE x true l) := by
 have hlo : lastOk x true = false := by rw [lastOk]; simp; try omega
 have b13 : (x.f0 == 13) = false := by simp; omega
 have b15 : (x.f0 == 15) = false := by simp; omega
 have b6 : (x.f0 == 6) = false := by simp; omega
 have hE : opE x true l = stick (stick (stick (stick 0 (!(partStr x.f0).toList.isEmpty) 12) (plainR x) 1) (lastOk x true) 19) (decide (l + 1 ≤ 1048576)) 21 := rfl
 rw [hlo] at hE
 obtain ⟨eE, heE⟩ : ∃ eE, eE = opE x true l := ⟨_, rfl⟩
 rw [← heE]
 have HE := heE.trans hE
 have HP := Lib.hid (fun w => plainR_any x A5 c5 A6 c6 w)
 have HS := Lib.hid (fun w => parts_any x.f0 w)
 clear hE heE hlo h6
 generalize plainR x = c2 at HE HP
 generalize partStr x.f0 = s at HE HS
 generalize x.f0 = i0 at *
 generalize x.f1 = i1 at *
 generalize x.f2 = i2 at *
 generalize x.f3 = i3 at *
 generalize x.f4 = i4 at *
 generalize x.f5.length = n5 at *
 generalize x.f6.length = n6 at *
 obtain ⟨c1, hc1⟩ : ∃ b, (!s.toList.isEmpty) = b := ⟨_, rfl⟩
 rw [hc1] at HE
 have hc1' := hc1
 replace HE := Lib.hid HE
 have hx := alloc_new w (.cells #[.int .i64 i0, .int .i64 i1, .int .i64 i2, .int .i64 i3, .int .i64 i4, .slice A5 n5 c5, .slice A6 n6 c6] 79)
 have hb := below1 w (.cells #[.int .i64 i0, .int .i64 i1, .int .i64 i2, .int .i64 i3, .int .i64 i4, .slice A5 n5 c5, .slice A6 n6 c6] 79)
 have hw := walk_below h hb
 have hg0 : g ≠ w.heap.size := Nat.ne_of_lt (blk_lt h)
 have HB := Lib.hid hb
 have HW := Lib.hid hw
 have HX := Lib.hid hx
 have HL := Lib.hid hl
 clear hx hb hw h hl hc1
 go_enter Tryz.func158, Tryz.ntmps158
 go_wp2_with fail
 refine (HS.out _).mono ?_
 rintro e w1 ⟨rfl, hb1⟩
 have HB1 := Lib.hid (HB.out.trans (hb1.mono HB.out.size))
 have HW1 := Lib.hid (walk_below HW.out hb1)
 have HX1 := Lib.hid ((hb1.block _ (blk_lt HX.out)).trans HX.out)
 clear hb1 HW HX HB
 go_wp2_with fail
 refine (mustR_any g v0 v1 l 0 c1 12 w1 HW1.out).mono ?_
 rintro e w2 ⟨rfl, hk2, hw2⟩
 have HK2 := Lib.hid ((Kept.of_below HB1.out).trans hk2)
 have HX2 := Lib.hid ((hk2.block _ (blk_lt HX1.out) (Ne.symm hg0)).trans HX1.out)
 have HW2 := Lib.hid hw2
 clear hk2 hw2 hc1' HB1 HX1
 have y0 := blk_cell HX2.out 0
 have y1 := blk_cell HX2.out 1
 have y2 := blk_cell HX2.out 2
 have y3 := blk_cell HX2.out 3
 have y4 := blk_cell HX2.out 4
 have y5 := blk_cell HX2.out 5
 have y6 := blk_cell HX2.out 6
 simp only [List.getElem?_toArray, List.getElem?_cons_succ, List.getElem?_cons_zero] at y0 y1 y2 y3 y4 y5 y6
 go_wp2_with fail
 refine (HP.out w2).mono ?_
 rintro e w3 ⟨rfl, hb3⟩
 have HK3 := Lib.hid (HK2.out.trans (Kept.of_below hb3))
 have HW3 := Lib.hid (walk_below HW2.out hb3)
 have HX3 := Lib.hid ((hb3.block _ (blk_lt HX2.out)).trans HX2.out)
 clear hb3 y0 y1 y2 y3 y4 y5 y6 HK2 HX2
 go_wp2_with fail
 refine (mustR_any g v0 v1 l _ c2 1 w3 HW3.out).mono ?_
 rintro e w4 ⟨rfl, hk4, hw4⟩
 have HK4 := Lib.hid (HK3.out.trans hk4)
 have HX4 := Lib.hid ((hk4.block _ (blk_lt HX3.out) (Ne.symm hg0)).trans HX3.out)
 have HW4 := Lib.hid hw4
 clear hk4 hw4 HK3 HX3
 have y0 := blk_cell HX4.out 0
 simp only [List.getElem?_toArray, List.getElem?_cons_zero] at y0
 go_wp2_with fail
 refine (mustR_any g v0 v1 l _ false 19 w4 HW4.out).mono ?_
 rintro e w5 ⟨rfl, hk5, hw5⟩
 have HK5 := Lib.hid (HK4.out.trans hk5)
 have HX5 := Lib.hid ((hk5.block _ (blk_lt HX4.out) (Ne.symm hg0)).trans HX4.out)
 have HW5 := Lib.hid hw5
 clear hk5 hw5 y0 HK4 HX4
 have y0 := blk_cell HX5.out 0
 have q2 := blk_cell HW5.out 2
 have z2 := blk_frozen HW5.out 2
 simp only [List.getElem?_toArray, List.getElem?_cons_succ, List.getElem?_cons_zero] at y0 q2
 have hwr : IntKind.i64.wrap (l + 1) = l + 1 := by rw [IntKind.wrap_i64]; have := HL.out; omega
 go_wp2_with fail
 refine (mustR_any g v0 v1 l _ (decide (l + 1 ≤ 1048576)) 21 w5 HW5.out).mono ?_
 rintro e w6 ⟨rfl, hk6, hw6⟩
 have HK6 := Lib.hid (HK5.out.trans hk6)
 have HW6 := Lib.hid hw6
 clear hk6 hw6
 go_wp2_with fail
 go_end0
 exact ⟨rfl, HK6.out, by rw [HE.out]; exact HW6.out⟩
theorem op_locs {w w' : World} {g : Nat} {v0 v1 : Value} {l l' : Int} {x : Ins} {last : Bool} {e : Ending} (hl : 0 ≤ l ∧ l < 1048576) (hl' : l' = (if x.f0 = 6 then l + 1 else l)) (h : e = .returned (.tuple #[]) ∧ Kept g w w' ∧ WalkAt w' g v0 v1 l' (opE x last l')) : locsR w g v0 v1 (opQ l x last) e w' := by
 refine ⟨h.1, h.2.1, ?_⟩
 have hw := h.2.2
 cases hq : opQ l x last with
 | ok m =>
  obtain ⟨hm, h0⟩ := opE_ok hq hl
  rw [← hl'] at hm
  subst hm
  rw [h0] at hw
  exact hw
 | error err =>
  obtain ⟨h0, _⟩ := opE_err hq hl
  rw [← hl'] at h0
  rw [h0] at hw
  exact ⟨_, hw⟩
theorem opR_any (g : Nat) (v0 v1 : Value) (l : Int) (x : Ins) (A5 : Option Addr) (c5 : Nat) (A6 : Option Addr) (c6 : Nat) (last : Bool) (w : World) (h : WalkAt w g v0 v1 l 0) (hl : 0 ≤ l ∧ l < 1048576) :
  Calls Tryz.prog 158 #[.pointer (some ⟨g, 0, none⟩), .agg #[.int .i64 x.f0, .int .i64 x.f1, .int .i64 x.f2, .int .i64 x.f3, .int .i64 x.f4, .slice A5 x.f5.length c5, .slice A6 x.f6.length c6], .bool last] w (locsR w g v0 v1 (opQ l x last)) := by
 cases last with
 | false =>
  by_cases h6 : x.f0 = 6
  ·exact (opR_new g v0 v1 l x A5 c5 A6 c6 w h hl h6).mono fun e w' hp => op_locs hl (by rw [if_pos h6]) hp
  ·exact (opR_mid g v0 v1 l x A5 c5 A6 c6 w h hl h6).mono fun e w' hp => op_locs hl (by rw [if_neg h6]) hp
 | true =>
  by_cases h13 : x.f0 = 13
  ·exact (opR_jump g v0 v1 l x A5 c5 A6 c6 w h hl h13).mono fun e w' hp => op_locs hl (by rw [if_neg (by omega)]) hp
  ·by_cases h15 : x.f0 = 15
   ·exact (opR_ret g v0 v1 l x A5 c5 A6 c6 w h hl h15).mono fun e w' hp => op_locs hl (by rw [if_neg (by omega)]) hp
   ·by_cases h6 : x.f0 = 6
    ·exact (opR_openNew g v0 v1 l x A5 c5 A6 c6 w h hl h6).mono fun e w' hp => op_locs hl (by rw [if_pos h6]) hp
    ·exact (opR_open g v0 v1 l x A5 c5 A6 c6 w h hl ⟨h6, h13, h15⟩).mono fun e w' hp => op_locs hl (by rw [if_neg h6]) hp
theorem listR_not (g : Nat) (v0 v1 : Value) (l e : Int) (ch : Int) (f : Fun) (fv : Value) (x : Ins) (A5 : Option Addr) (n5 c5 : Nat) (A6 : Option Addr) (n6 c6 : Nat) (w : World) (h : WalkAt w g v0 v1 l e) (he : e ≠ 0) (hfv : ∃ B n d, fv = .slice B n d) :
  Calls Tryz.prog 161 #[.pointer (some ⟨g, 0, none⟩), .int .u8 ch, .agg #[.int .i64 f.f0, .int .i64 f.f1, .int .i64 f.f2, fv], .agg #[.int .i64 x.f0, .int .i64 x.f1, .int .i64 x.f2, .int .i64 x.f3, .int .i64 x.f4, .slice A5 n5 c5, .slice A6 n6 c6]] w (sticks w g v0 v1 l e) := by
 obtain ⟨B, n, d, rfl⟩ := hfv
 have hb : Below w.heap.size w ((w.alloc (.cells #[.int .i64 f.f0, .int .i64 f.f1, .int .i64 f.f2, .slice B n d] 66)).alloc (.cells #[.int .i64 x.f0, .int .i64 x.f1, .int .i64 x.f2, .int .i64 x.f3, .int .i64 x.f4, .slice A5 n5 c5, .slice A6 n6 c6] 79)) := (below1 _ _).alloc (by simp) _
 have hw := walk_below h hb
 have q3 := blk_cell hw 3
 simp only [List.getElem?_toArray, List.getElem?_cons_succ, List.getElem?_cons_zero] at q3
 have hz : (e != 0) = true := by simpa using he
 have HB := Lib.hid hb
 have HW := Lib.hid hw
 clear hb hw h he
 obtain ⟨cb, hcb⟩ : ∃ b, (ch == 66) = b := ⟨_, rfl⟩
 cases cb <;>
 ·go_enter Tryz.func161, Tryz.ntmps161
  go_wp2_with fail
  go_end0
  exact ⟨rfl, Kept.of_below HB.out, HW.out⟩
def listF (f : Fun) (l : List Int) (e : Int) : Nat → Int
 | 0 => e
 | j + 1 => stick (listF f l e j) (varOk f (l.getD j 0)) 13
theorem listF_stays (f : Fun) (l : List Int) {e : Int} (he : e ≠ 0) : ∀ j, listF f l e j = e
 | 0 => rfl
 | j + 1 => by
  rw [listF, listF_stays f l he j, stick, if_neg he]
  split <;> rfl
theorem need_err (p : Nat → Bool) {e : Int} : ∀ j, runTo (fun _ j => need (p j) 13) () j = .error e → e = 13
 | 0, h => by cases h
 | j + 1, h => by
  rw [runTo] at h
  cases hj : runTo (fun _ j => need (p j) 13) () j with
  | ok u =>
   rw [hj] at h
   have h' : need (p j) 13 = .error e := h
   rw [need] at h'
   split at h'
   ·cases h'
   ·injection h' with h'; exact h'.symm
  | error e' =>
   rw [hj] at h
   injection h with h
   subst h
   exact need_err p j hj
theorem listF_runs (f : Fun) (l : List Int) : ∀ j, listF f l 0 j = (match runTo (fun _ j => need (varOk f (l.getD j 0)) 13) () j with | .ok _ => 0 | .error err => err)
 | 0 => rfl
 | j + 1 => by
  rw [listF, listF_runs f l j, runTo]
  cases hj : runTo (fun _ j => need (varOk f (l.getD j 0)) 13) () j with
  | ok u =>
   show stick 0 (varOk f (l.getD j 0)) 13 = match need (varOk f (l.getD j 0)) 13 with | .ok _ => 0 | .error err => err
   cases varOk f (l.getD j 0) <;> rfl
  | error err =>
   have h : err ≠ 0 := by rw [need_err _ j hj]; decide
   show stick err (varOk f (l.getD j 0)) 13 = err
   rw [stick, if_neg h]
   split <;> rfl
set_option maxRecDepth 100000 in
set_option maxHeartbeats 1600000 in
theorem listRA_ok (g : Nat) (v0 v1 : Value) (l : Int) (f : Fun) (B : Option Addr) (fn fc : Nat) (x : Ins) (A5 : Option Addr) (c5 : Nat) (A6 : Option Addr) (n6 c6 : Nat) (m : Int) (wB w : World) (h : WalkAt w g v0 v1 l 0) (hB : Below wB.heap.size wB w) (hg : wB.heap.size ≤ g)
  (hC : (Kd.int .i64).C wB A5 x.f5.length x.f5) (hlm : x.f5.length ≤ 2147483647)
  (hw : ∀ W, Below w.heap.size w W → Calls Tryz.prog 197 #[.pointer (some ⟨g, 0, none⟩), .int .u8 65, .agg #[.int .i64 f.f0, .int .i64 f.f1, .int .i64 f.f2, .slice B fn fc], .agg #[.int .i64 x.f0, .int .i64 x.f1, .int .i64 x.f2, .int .i64 x.f3, .int .i64 x.f4, .slice A5 x.f5.length c5, .slice A6 n6 c6]] W fun r w' => r = .returned (.int .i64 m) ∧ Below W.heap.size W w') :
  Calls Tryz.prog 161 #[.pointer (some ⟨g, 0, none⟩), .int .u8 65, .agg #[.int .i64 f.f0, .int .i64 f.f1, .int .i64 f.f2, .slice B fn fc], .agg #[.int .i64 x.f0, .int .i64 x.f1, .int .i64 x.f2, .int .i64 x.f3, .int .i64 x.f4, .slice A5 x.f5.length c5, .slice A6 n6 c6]] w (sticks w g v0 v1 l (listF f x.f5 (stick 0 ((x.f5.length : Int) == m) 15) x.f5.length)) := by
 have hg0 : g < w.heap.size := blk_lt h
 obtain ⟨e0, he0⟩ : ∃ e0, e0 = stick 0 ((x.f5.length : Int) == m) 15 := ⟨_, rfl⟩
 rw [← he0]
 have HE0 := Lib.hid he0
 clear he0
 have HWT := Lib.hid hw
 have HC := Lib.hid hC
 have HBB := Lib.hid hB
 clear hw hC hB
 go_enter Tryz.func161, Tryz.ntmps161
 go_upto_region 4 with (fail)
 have hb0 := below1 w (.cells #[.int .i64 f.f0, .int .i64 f.f1, .int .i64 f.f2, .slice B fn fc] 66)
 have hf := alloc_new w (.cells #[.int .i64 f.f0, .int .i64 f.f1, .int .i64 f.f2, .slice B fn fc] 66)
 have hx := alloc_new (w.alloc (.cells #[.int .i64 f.f0, .int .i64 f.f1, .int .i64 f.f2, .slice B fn fc] 66)) (.cells #[.int .i64 x.f0, .int .i64 x.f1, .int .i64 x.f2, .int .i64 x.f3, .int .i64 x.f4, .slice A5 x.f5.length c5, .slice A6 n6 c6] 79)
 have hb1 := below1 (w.alloc (.cells #[.int .i64 f.f0, .int .i64 f.f1, .int .i64 f.f2, .slice B fn fc] 66)) (.cells #[.int .i64 x.f0, .int .i64 x.f1, .int .i64 x.f2, .int .i64 x.f3, .int .i64 x.f4, .slice A5 x.f5.length c5, .slice A6 n6 c6] 79)
 have hf2 := (hb1.block _ (blk_lt hf)).trans hf
 rw [show (w.alloc (.cells #[.int .i64 f.f0, .int .i64 f.f1, .int .i64 f.f2, .slice B fn fc] 66)).heap.size = w.heap.size + 1 by simp] at hx
 have hb := hb0.trans (hb1.mono hb0.size)
 clear hb0 hb1 hf
 generalize World.alloc (World.alloc _ _) _ = W at hx hb hf2 ⊢
 have hw := walk_below h hb
 have q3 := blk_cell hw 3
 have HF := Lib.hid hf2
 have HX := Lib.hid hx
 have HW := Lib.hid hw
 have HB := Lib.hid hb
 have y0 := blk_cell hf2 0
 have y1 := blk_cell hf2 1
 have y2 := blk_cell hf2 2
 have y3 := blk_cell hf2 3
 have z0 := blk_cell hx 0
 have z1 := blk_cell hx 1
 have z2 := blk_cell hx 2
 have z3 := blk_cell hx 3
 have z4 := blk_cell hx 4
 have z5 := blk_cell hx 5
 have z6 := blk_cell hx 6
 simp only [List.getElem?_toArray, List.getElem?_cons_succ, List.getElem?_cons_zero] at q3 y0 y1 y2 y3 z0 z1 z2 z3 z4 z5 z6
 clear hx hb hf2 hw h
 go_wp2_with fail
 refine (HWT.out W HB.out).mono ?_
 rintro e w1 ⟨rfl, hb1⟩
 have HB1 := Lib.hid (HB.out.trans (hb1.mono HB.out.size))
 have HW1 := Lib.hid (walk_below HW.out hb1)
 have HF1 := Lib.hid ((hb1.block _ (blk_lt HF.out)).trans HF.out)
 clear hb1 q3 y0 y1 y2 y3 z0 z1 z2 z3 z4 z5 z6 HX HF HW HB HWT
 obtain ⟨c1, hc1⟩ : ∃ b, ((x.f5.length : Int) == m) = b := ⟨_, rfl⟩
 have HE1 := Lib.hid (show e0 = stick 0 c1 15 by rw [HE0.out, hc1])
 go_wp2_with fail
 refine (mustR_any g v0 v1 l 0 c1 15 w1 HW1.out).mono ?_
 rintro e w2 ⟨rfl, hk2, hw2⟩
 have hne : w.heap.size ≠ g := by omega
 have HK2 := Lib.hid ((Kept.of_below HB1.out).trans hk2)
 have HW2 := Lib.hid hw2
 have HF2 := Lib.hid ((hk2.block _ (blk_lt HF1.out) hne).trans HF1.out)
 clear hk2 hw2 HW1 HB1 HF1 hc1
 go_wp2_with fail
 have HW2' := HW2.out
 rw [← HE1.out] at HW2'
 replace HW2 := Lib.hid HW2'
 clear HW2'
 go_loopw [9] (fun i wr => ∃ j : Nat, j ≤ x.f5.length ∧ i = .int .i64 j ∧ WalkAt wr g v0 v1 l (listF f x.f5 e0 j) ∧ Kept g w wr ∧ wr.heap[w.heap.size]? = some (.cells #[.int .i64 f.f0, .int .i64 f.f1, .int .i64 f.f2, .slice B fn fc] 66 (0, 0))) (fun i _ => x.f5.length - (intOf i).toNat)
 case atStart => exact ⟨0, by omega, rfl, HW2.out, HK2.out, HF2.out⟩
 case round =>
  clear HW2 HK2 HF2
  obtain ⟨j, hj, rfl, hW, hK, hF⟩ := hrel
  have HW := Lib.hid hW
  have HK := Lib.hid hK
  have HF := Lib.hid hF
  clear hW hK hF
  by_cases hlt : j < x.f5.length
  ·have hCr : (Kd.int .i64).C wr A5 x.f5.length x.f5 := Kd.C_below HC.out (HK.out.below HBB.out (Nat.le_refl _) hg)
   obtain ⟨ad, hAd, hx⟩ := Kd.at_int hCr (j : Int) (by omega) (by omega)
   obtain ⟨v, hv0⟩ : ∃ v, v = x.f5.getD j 0 := ⟨_, rfl⟩
   have hx' : rd x.f5 (j : Int) = v := hv0.symm
   rw [hx', Int.toNat_natCast] at hx
   have HG := Lib.hid hv0
   have y0 := blk_cell HF.out 0
   have y1 := blk_cell HF.out 1
   have y2 := blk_cell HF.out 2
   have y3 := blk_cell HF.out 3
   simp only [List.getElem?_toArray, List.getElem?_cons_succ, List.getElem?_cons_zero] at y0 y1 y2 y3
   clear hv0 hx' hCr
   subst hAd
   go_wp2_with fail
   refine wp_region_still_tail 6 (by kernel_rfl) (by kernel_rfl) ?_
   change wpStill _ _ wr.drew (fun a' => wpList _ _ _ _ a' wr.drew) _ _
   simp only [List.take_succ_cons, List.take_zero, List.drop_succ_cons, List.drop_zero]
   repeat still_step
   refine wpStill_nil ?_
   go_wp2_with fail
   refine (vaR_any g v0 v1 l _ f B fn fc v wr.drew HW.out).mono ?_
   rintro e w3 ⟨rfl, hk3, hw3⟩
   have HW3 := Lib.hid hw3
   have HK3 := Lib.hid (HK.out.trans (Kept.trans (w1 := wr.drew) ((Kept.of_below (Below.refl _ _)).drewN 1) hk3))
   have HF3 := Lib.hid ((hk3.block _ (blk_lt HF.out) hne).trans HF.out)
   clear hk3 hw3 y0 y1 y2 y3 hx
   go_wp2_with fail
   go_roundw
   case rel => exact ⟨j + 1, by omega, by go_num, by rw [listF, ← HG.out]; exact HW3.out, HK3.out, HF3.out⟩
   case measure => simp [intOf]; omega
  ·obtain rfl : j = x.f5.length := by omega
   go_wp2_with fail
   go_end0
   exact ⟨rfl, HK.out, HW.out⟩
set_option maxRecDepth 100000 in
set_option maxHeartbeats 1600000 in
theorem listRV_ok (g : Nat) (v0 v1 : Value) (l : Int) (f : Fun) (B : Option Addr) (fn fc : Nat) (x : Ins) (A5 : Option Addr) (c5 : Nat) (A6 : Option Addr) (n6 c6 : Nat) (m : Int) (wB w : World) (h : WalkAt w g v0 v1 l 0) (hB : Below wB.heap.size wB w) (hg : wB.heap.size ≤ g)
  (hC : (Kd.int .i64).C wB A5 x.f5.length x.f5) (hlm : x.f5.length ≤ 2147483647)
  (hw : ∀ W, Below w.heap.size w W → Calls Tryz.prog 197 #[.pointer (some ⟨g, 0, none⟩), .int .u8 86, .agg #[.int .i64 f.f0, .int .i64 f.f1, .int .i64 f.f2, .slice B fn fc], .agg #[.int .i64 x.f0, .int .i64 x.f1, .int .i64 x.f2, .int .i64 x.f3, .int .i64 x.f4, .slice A5 x.f5.length c5, .slice A6 n6 c6]] W fun r w' => r = .returned (.int .i64 m) ∧ Below W.heap.size W w') :
  Calls Tryz.prog 161 #[.pointer (some ⟨g, 0, none⟩), .int .u8 86, .agg #[.int .i64 f.f0, .int .i64 f.f1, .int .i64 f.f2, .slice B fn fc], .agg #[.int .i64 x.f0, .int .i64 x.f1, .int .i64 x.f2, .int .i64 x.f3, .int .i64 x.f4, .slice A5 x.f5.length c5, .slice A6 n6 c6]] w (sticks w g v0 v1 l (listF f x.f5 (stick 0 ((x.f5.length : Int) == m) 15) x.f5.length)) := by
 have hg0 : g < w.heap.size := blk_lt h
 obtain ⟨e0, he0⟩ : ∃ e0, e0 = stick 0 ((x.f5.length : Int) == m) 15 := ⟨_, rfl⟩
 rw [← he0]
 have HE0 := Lib.hid he0
 clear he0
 have HWT := Lib.hid hw
 have HC := Lib.hid hC
 have HBB := Lib.hid hB
 clear hw hC hB
 go_enter Tryz.func161, Tryz.ntmps161
 go_upto_region 4 with (fail)
 have hb0 := below1 w (.cells #[.int .i64 f.f0, .int .i64 f.f1, .int .i64 f.f2, .slice B fn fc] 66)
 have hf := alloc_new w (.cells #[.int .i64 f.f0, .int .i64 f.f1, .int .i64 f.f2, .slice B fn fc] 66)
 have hx := alloc_new (w.alloc (.cells #[.int .i64 f.f0, .int .i64 f.f1, .int .i64 f.f2, .slice B fn fc] 66)) (.cells #[.int .i64 x.f0, .int .i64 x.f1, .int .i64 x.f2, .int .i64 x.f3, .int .i64 x.f4, .slice A5 x.f5.length c5, .slice A6 n6 c6] 79)
 have hb1 := below1 (w.alloc (.cells #[.int .i64 f.f0, .int .i64 f.f1, .int .i64 f.f2, .slice B fn fc] 66)) (.cells #[.int .i64 x.f0, .int .i64 x.f1, .int .i64 x.f2, .int .i64 x.f3, .int .i64 x.f4, .slice A5 x.f5.length c5, .slice A6 n6 c6] 79)
 have hf2 := (hb1.block _ (blk_lt hf)).trans hf
 rw [show (w.alloc (.cells #[.int .i64 f.f0, .int .i64 f.f1, .int .i64 f.f2, .slice B fn fc] 66)).heap.size = w.heap.size + 1 by simp] at hx
 have hb := hb0.trans (hb1.mono hb0.size)
 clear hb0 hb1 hf
 generalize World.alloc (World.alloc _ _) _ = W at hx hb hf2 ⊢
 have hw := walk_below h hb
 have q3 := blk_cell hw 3
 have HF := Lib.hid hf2
 have HX := Lib.hid hx
 have HW := Lib.hid hw
 have HB := Lib.hid hb
 have y0 := blk_cell hf2 0
 have y1 := blk_cell hf2 1
 have y2 := blk_cell hf2 2
 have y3 := blk_cell hf2 3
 have z0 := blk_cell hx 0
 have z1 := blk_cell hx 1
 have z2 := blk_cell hx 2
 have z3 := blk_cell hx 3
 have z4 := blk_cell hx 4
 have z5 := blk_cell hx 5
 have z6 := blk_cell hx 6
 simp only [List.getElem?_toArray, List.getElem?_cons_succ, List.getElem?_cons_zero] at q3 y0 y1 y2 y3 z0 z1 z2 z3 z4 z5 z6
 clear hx hb hf2 hw h
 go_wp2_with fail
 refine (HWT.out W HB.out).mono ?_
 rintro e w1 ⟨rfl, hb1⟩
 have HB1 := Lib.hid (HB.out.trans (hb1.mono HB.out.size))
 have HW1 := Lib.hid (walk_below HW.out hb1)
 have HF1 := Lib.hid ((hb1.block _ (blk_lt HF.out)).trans HF.out)
 clear hb1 q3 y0 y1 y2 y3 z0 z1 z2 z3 z4 z5 z6 HX HF HW HB HWT
 obtain ⟨c1, hc1⟩ : ∃ b, ((x.f5.length : Int) == m) = b := ⟨_, rfl⟩
 have HE1 := Lib.hid (show e0 = stick 0 c1 15 by rw [HE0.out, hc1])
 go_wp2_with fail
 refine (mustR_any g v0 v1 l 0 c1 15 w1 HW1.out).mono ?_
 rintro e w2 ⟨rfl, hk2, hw2⟩
 have hne : w.heap.size ≠ g := by omega
 have HK2 := Lib.hid ((Kept.of_below HB1.out).trans hk2)
 have HW2 := Lib.hid hw2
 have HF2 := Lib.hid ((hk2.block _ (blk_lt HF1.out) hne).trans HF1.out)
 clear hk2 hw2 HW1 HB1 HF1 hc1
 go_wp2_with fail
 have HW2' := HW2.out
 rw [← HE1.out] at HW2'
 replace HW2 := Lib.hid HW2'
 clear HW2'
 go_loopw [9] (fun i wr => ∃ j : Nat, j ≤ x.f5.length ∧ i = .int .i64 j ∧ WalkAt wr g v0 v1 l (listF f x.f5 e0 j) ∧ Kept g w wr ∧ wr.heap[w.heap.size]? = some (.cells #[.int .i64 f.f0, .int .i64 f.f1, .int .i64 f.f2, .slice B fn fc] 66 (0, 0))) (fun i _ => x.f5.length - (intOf i).toNat)
 case atStart => exact ⟨0, by omega, rfl, HW2.out, HK2.out, HF2.out⟩
 case round =>
  clear HW2 HK2 HF2
  obtain ⟨j, hj, rfl, hW, hK, hF⟩ := hrel
  have HW := Lib.hid hW
  have HK := Lib.hid hK
  have HF := Lib.hid hF
  clear hW hK hF
  by_cases hlt : j < x.f5.length
  ·have hCr : (Kd.int .i64).C wr A5 x.f5.length x.f5 := Kd.C_below HC.out (HK.out.below HBB.out (Nat.le_refl _) hg)
   obtain ⟨ad, hAd, hx⟩ := Kd.at_int hCr (j : Int) (by omega) (by omega)
   obtain ⟨v, hv0⟩ : ∃ v, v = x.f5.getD j 0 := ⟨_, rfl⟩
   have hx' : rd x.f5 (j : Int) = v := hv0.symm
   rw [hx', Int.toNat_natCast] at hx
   have HG := Lib.hid hv0
   have y0 := blk_cell HF.out 0
   have y1 := blk_cell HF.out 1
   have y2 := blk_cell HF.out 2
   have y3 := blk_cell HF.out 3
   simp only [List.getElem?_toArray, List.getElem?_cons_succ, List.getElem?_cons_zero] at y0 y1 y2 y3
   clear hv0 hx' hCr
   subst hAd
   go_wp2_with fail
   refine wp_region_still_tail 6 (by kernel_rfl) (by kernel_rfl) ?_
   change wpStill _ _ wr.drew (fun a' => wpList _ _ _ _ a' wr.drew) _ _
   simp only [List.take_succ_cons, List.take_zero, List.drop_succ_cons, List.drop_zero]
   repeat still_step
   refine wpStill_nil ?_
   go_wp2_with fail
   refine (vaR_any g v0 v1 l _ f B fn fc v wr.drew HW.out).mono ?_
   rintro e w3 ⟨rfl, hk3, hw3⟩
   have HW3 := Lib.hid hw3
   have HK3 := Lib.hid (HK.out.trans (Kept.trans (w1 := wr.drew) ((Kept.of_below (Below.refl _ _)).drewN 1) hk3))
   have HF3 := Lib.hid ((hk3.block _ (blk_lt HF.out) hne).trans HF.out)
   clear hk3 hw3 y0 y1 y2 y3 hx
   go_wp2_with fail
   go_roundw
   case rel => exact ⟨j + 1, by omega, by go_num, by rw [listF, ← HG.out]; exact HW3.out, HK3.out, HF3.out⟩
   case measure => simp [intOf]; omega
  ·obtain rfl : j = x.f5.length := by omega
   go_wp2_with fail
   go_end0
   exact ⟨rfl, HK.out, HW.out⟩
set_option maxRecDepth 100000 in
set_option maxHeartbeats 1600000 in
theorem listRB_ok (g : Nat) (v0 v1 : Value) (l : Int) (f : Fun) (B : Option Addr) (fn fc : Nat) (x : Ins) (A5 : Option Addr) (c5 : Nat) (A6 : Option Addr) (n6 c6 : Nat) (m : Int) (wB w : World) (h : WalkAt w g v0 v1 l 0) (hB : Below wB.heap.size wB w) (hg : wB.heap.size ≤ g)
  (hC : (Kd.int .i64).C wB A5 x.f6.length x.f6) (hlm : x.f6.length ≤ 2147483647)
  (hw : ∀ W, Below w.heap.size w W → Calls Tryz.prog 197 #[.pointer (some ⟨g, 0, none⟩), .int .u8 66, .agg #[.int .i64 f.f0, .int .i64 f.f1, .int .i64 f.f2, .slice B fn fc], .agg #[.int .i64 x.f0, .int .i64 x.f1, .int .i64 x.f2, .int .i64 x.f3, .int .i64 x.f4, .slice A6 n6 c6, .slice A5 x.f6.length c5]] W fun r w' => r = .returned (.int .i64 m) ∧ Below W.heap.size W w') :
  Calls Tryz.prog 161 #[.pointer (some ⟨g, 0, none⟩), .int .u8 66, .agg #[.int .i64 f.f0, .int .i64 f.f1, .int .i64 f.f2, .slice B fn fc], .agg #[.int .i64 x.f0, .int .i64 x.f1, .int .i64 x.f2, .int .i64 x.f3, .int .i64 x.f4, .slice A6 n6 c6, .slice A5 x.f6.length c5]] w (sticks w g v0 v1 l (listF f x.f6 (stick 0 ((x.f6.length : Int) == m) 15) x.f6.length)) := by
 have hg0 : g < w.heap.size := blk_lt h
 obtain ⟨e0, he0⟩ : ∃ e0, e0 = stick 0 ((x.f6.length : Int) == m) 15 := ⟨_, rfl⟩
 rw [← he0]
 have HE0 := Lib.hid he0
 clear he0
 have HWT := Lib.hid hw
 have HC := Lib.hid hC
 have HBB := Lib.hid hB
 clear hw hC hB
 go_enter Tryz.func161, Tryz.ntmps161
 go_upto_region 4 with (fail)
 have hb0 := below1 w (.cells #[.int .i64 f.f0, .int .i64 f.f1, .int .i64 f.f2, .slice B fn fc] 66)
 have hf := alloc_new w (.cells #[.int .i64 f.f0, .int .i64 f.f1, .int .i64 f.f2, .slice B fn fc] 66)
 have hx := alloc_new (w.alloc (.cells #[.int .i64 f.f0, .int .i64 f.f1, .int .i64 f.f2, .slice B fn fc] 66)) (.cells #[.int .i64 x.f0, .int .i64 x.f1, .int .i64 x.f2, .int .i64 x.f3, .int .i64 x.f4, .slice A6 n6 c6, .slice A5 x.f6.length c5] 79)
 have hb1 := below1 (w.alloc (.cells #[.int .i64 f.f0, .int .i64 f.f1, .int .i64 f.f2, .slice B fn fc] 66)) (.cells #[.int .i64 x.f0, .int .i64 x.f1, .int .i64 x.f2, .int .i64 x.f3, .int .i64 x.f4, .slice A6 n6 c6, .slice A5 x.f6.length c5] 79)
 have hf2 := (hb1.block _ (blk_lt hf)).trans hf
 rw [show (w.alloc (.cells #[.int .i64 f.f0, .int .i64 f.f1, .int .i64 f.f2, .slice B fn fc] 66)).heap.size = w.heap.size + 1 by simp] at hx
 have hb := hb0.trans (hb1.mono hb0.size)
 clear hb0 hb1 hf
 generalize World.alloc (World.alloc _ _) _ = W at hx hb hf2 ⊢
 have hw := walk_below h hb
 have q3 := blk_cell hw 3
 have HF := Lib.hid hf2
 have HX := Lib.hid hx
 have HW := Lib.hid hw
 have HB := Lib.hid hb
 have y0 := blk_cell hf2 0
 have y1 := blk_cell hf2 1
 have y2 := blk_cell hf2 2
 have y3 := blk_cell hf2 3
 have z0 := blk_cell hx 0
 have z1 := blk_cell hx 1
 have z2 := blk_cell hx 2
 have z3 := blk_cell hx 3
 have z4 := blk_cell hx 4
 have z5 := blk_cell hx 5
 have z6 := blk_cell hx 6
 simp only [List.getElem?_toArray, List.getElem?_cons_succ, List.getElem?_cons_zero] at q3 y0 y1 y2 y3 z0 z1 z2 z3 z4 z5 z6
 clear hx hb hf2 hw h
 go_wp2_with fail
 refine (HWT.out W HB.out).mono ?_
 rintro e w1 ⟨rfl, hb1⟩
 have HB1 := Lib.hid (HB.out.trans (hb1.mono HB.out.size))
 have HW1 := Lib.hid (walk_below HW.out hb1)
 have HF1 := Lib.hid ((hb1.block _ (blk_lt HF.out)).trans HF.out)
 clear hb1 q3 y0 y1 y2 y3 z0 z1 z2 z3 z4 z5 z6 HX HF HW HB HWT
 obtain ⟨c1, hc1⟩ : ∃ b, ((x.f6.length : Int) == m) = b := ⟨_, rfl⟩
 have HE1 := Lib.hid (show e0 = stick 0 c1 15 by rw [HE0.out, hc1])
 go_wp2_with fail
 refine (mustR_any g v0 v1 l 0 c1 15 w1 HW1.out).mono ?_
 rintro e w2 ⟨rfl, hk2, hw2⟩
 have hne : w.heap.size ≠ g := by omega
 have HK2 := Lib.hid ((Kept.of_below HB1.out).trans hk2)
 have HW2 := Lib.hid hw2
 have HF2 := Lib.hid ((hk2.block _ (blk_lt HF1.out) hne).trans HF1.out)
 clear hk2 hw2 HW1 HB1 HF1 hc1
 go_wp2_with fail
 have HW2' := HW2.out
 rw [← HE1.out] at HW2'
 replace HW2 := Lib.hid HW2'
 clear HW2'
 go_loopw [9] (fun i wr => ∃ j : Nat, j ≤ x.f6.length ∧ i = .int .i64 j ∧ WalkAt wr g v0 v1 l (listF f x.f6 e0 j) ∧ Kept g w wr ∧ wr.heap[w.heap.size]? = some (.cells #[.int .i64 f.f0, .int .i64 f.f1, .int .i64 f.f2, .slice B fn fc] 66 (0, 0))) (fun i _ => x.f6.length - (intOf i).toNat)
 case atStart => exact ⟨0, by omega, rfl, HW2.out, HK2.out, HF2.out⟩
 case round =>
  clear HW2 HK2 HF2
  obtain ⟨j, hj, rfl, hW, hK, hF⟩ := hrel
  have HW := Lib.hid hW
  have HK := Lib.hid hK
  have HF := Lib.hid hF
  clear hW hK hF
  by_cases hlt : j < x.f6.length
  ·have hCr : (Kd.int .i64).C wr A5 x.f6.length x.f6 := Kd.C_below HC.out (HK.out.below HBB.out (Nat.le_refl _) hg)
   obtain ⟨ad, hAd, hx⟩ := Kd.at_int hCr (j : Int) (by omega) (by omega)
   obtain ⟨v, hv0⟩ : ∃ v, v = x.f6.getD j 0 := ⟨_, rfl⟩
   have hx' : rd x.f6 (j : Int) = v := hv0.symm
   rw [hx', Int.toNat_natCast] at hx
   have HG := Lib.hid hv0
   have y0 := blk_cell HF.out 0
   have y1 := blk_cell HF.out 1
   have y2 := blk_cell HF.out 2
   have y3 := blk_cell HF.out 3
   simp only [List.getElem?_toArray, List.getElem?_cons_succ, List.getElem?_cons_zero] at y0 y1 y2 y3
   clear hv0 hx' hCr
   subst hAd
   go_wp2_with fail
   refine wp_region_still_tail 6 (by kernel_rfl) (by kernel_rfl) ?_
   change wpStill _ _ wr.drew (fun a' => wpList _ _ _ _ a' wr.drew) _ _
   simp only [List.take_succ_cons, List.take_zero, List.drop_succ_cons, List.drop_zero]
   repeat still_step
   refine wpStill_nil ?_
   go_wp2_with fail
   refine (vaR_any g v0 v1 l _ f B fn fc v wr.drew HW.out).mono ?_
   rintro e w3 ⟨rfl, hk3, hw3⟩
   have HW3 := Lib.hid hw3
   have HK3 := Lib.hid (HK.out.trans (Kept.trans (w1 := wr.drew) ((Kept.of_below (Below.refl _ _)).drewN 1) hk3))
   have HF3 := Lib.hid ((hk3.block _ (blk_lt HF.out) hne).trans HF.out)
   clear hk3 hw3 y0 y1 y2 y3 hx
   go_wp2_with fail
   go_roundw
   case rel => exact ⟨j + 1, by omega, by go_num, by rw [listF, ← HG.out]; exact HW3.out, HK3.out, HF3.out⟩
   case measure => simp [intOf]; omega
  ·obtain rfl : j = x.f6.length := by omega
   go_wp2_with fail
   go_end0
   exact ⟨rfl, HK.out, HW.out⟩
theorem partStr_size (i : Int) (h : 1 ≤ i ∧ i < 18) : (partStr i).size = (table.getD i.toNat []).length := by
 show ((if 1 ≤ i ∧ i < 18 then table.getD i.toNat [] else []).map Part.ch).toArray.size = _
 rw [if_pos h]
 simp
theorem partStr_letter (i : Int) (h : 1 ≤ i ∧ i < 18) (j : Nat) (hj : j < (table.getD i.toNat []).length) : bt (partStr i) (j : Int) = (((table.getD i.toNat []).getD j .i).ch.toNat : Int) := by
 have H : ∀ k, k < 18 → 1 ≤ k → ∀ j, j < 3 → j < (table.getD k []).length → bt (partStr (k : Int)) (j : Int) = (((table.getD k []).getD j .i).ch.toNat : Int) := by decide +kernel
 have hk : i = (i.toNat : Int) := by omega
 have h3 := table_short i.toNat
 rw [hk]
 exact H i.toNat (by omega) (by omega) j (by omega) hj
def insQ (G : Int) (fs : List Fun) (f : Fun) (l : Int) (x : Ins) (last : Bool) : Except Int Int :=
 match opQ l x last with
 | .ok l' => match partsQ G fs f x f.f3.length with
  | .ok _ => .ok l'
  | .error e => .error e
 | .error e => .error e
def insE (G : Int) (fs : List Fun) (f : Fun) (x : Ins) (e : Int) (j : Nat) : Int :=
 if e = 0 then (match runTo (fun _ j => askQ G fs f x f.f3.length ((table.getD x.f0.toNat []).getD j .i)) () j with | .ok _ => 0 | .error err => err) else e
def letE (G : Int) (fs : List Fun) (f : Fun) (x : Ins) (p : Part) (e : Int) : Int :=
 if e = 0 then (match askQ G fs f x f.f3.length p with | .ok _ => 0 | .error err => err) else e
theorem need_err_ne {b : Bool} {e err : Int} (he : e ≠ 0) (h : need b e = .error err) : err ≠ 0 := by
 unfold need at h
 split at h
 ·cases h
 ·injection h with h; omega
theorem listQ_err_ne {f : Fun} {l : List Int} {m err : Int} (h : listQ f l m = .error err) : err ≠ 0 := by
 unfold listQ at h
 split at h
 ·rw [need_err _ _ h]; decide
 ·injection h with h; omega
theorem askQ_err_ne {G : Int} {fs : List Fun} {f : Fun} {x : Ins} {n err : Int} {p : Part} (h : askQ G fs f x n p = .error err) : err ≠ 0 := by
 cases p
 all_goals first
  | exact need_err_ne (by decide) h
  | exact listQ_err_ne h
  | cases h
theorem runTo_err_at {σ : Type} {step : σ → Nat → Except Int σ} {s : σ} (P : Int → Prop) (hs : ∀ s j e, step s j = .error e → P e) {e : Int} : ∀ k, runTo step s k = .error e → P e
 | 0, h => by cases h
 | k + 1, h => by
  rw [runTo] at h
  cases hk : runTo step s k with
  | ok s' => rw [hk] at h; exact hs _ _ _ h
  | error e' =>
   rw [hk] at h
   injection h with h
   subst h
   exact runTo_err_at P hs k hk
theorem insE_succ (G : Int) (fs : List Fun) (f : Fun) (x : Ins) (e : Int) (j : Nat) : insE G fs f x e (j + 1) = letE G fs f x ((table.getD x.f0.toNat []).getD j .i) (insE G fs f x e j) := by
 unfold insE letE
 by_cases he : e = 0
 ·rw [if_pos he, if_pos he, runTo]
  cases hj : runTo (fun _ j => askQ G fs f x f.f3.length ((table.getD x.f0.toNat []).getD j .i)) () j with
  | ok u => rw [if_pos rfl]
  | error err =>
   have : err ≠ 0 := runTo_err_at (· ≠ 0) (fun _ _ _ h => askQ_err_ne h) _ hj
   exact (if_neg this).symm
 ·rw [if_neg he, if_neg he]
  exact (if_neg he).symm
theorem insE_zero (G : Int) (fs : List Fun) (f : Fun) (x : Ins) (e : Int) : insE G fs f x e 0 = e := by
 unfold insE
 split
 ·rename_i h; rw [h]; rfl
 ·rfl
theorem letE_need {G : Int} {fs : List Fun} {f : Fun} {x : Ins} {p : Part} {e er : Int} {b : Bool} (h : askQ G fs f x f.f3.length p = need b er) : letE G fs f x p e = stick e b er := by
 unfold letE stick
 rw [h]
 cases b <;> (unfold need; by_cases he : e = 0 <;> simp [he])
theorem letE_i {G : Int} {fs : List Fun} {f : Fun} {x : Ins} {e : Int} : letE G fs f x .i e = e := by
 unfold letE askQ
 split
 ·rename_i h; exact h.symm
 ·rfl
theorem letE_not {G : Int} {fs : List Fun} {f : Fun} {x : Ins} {p : Part} {e : Int} (h : e ≠ 0) : letE G fs f x p e = e := if_neg h
theorem letE_list {G : Int} {fs : List Fun} {f : Fun} {x : Ins} {p : Part} {l : List Int} {m : Int} (h : askQ G fs f x f.f3.length p = listQ f l m) : letE G fs f x p 0 = listF f l (stick 0 ((l.length : Int) == m) 15) l.length := by
 unfold letE
 rw [if_pos rfl, h]
 unfold listQ
 by_cases hm : (l.length : Int) = m
 ·rw [if_pos hm, show ((l.length : Int) == m) = true by simpa using hm]
  exact (listF_runs f l _).symm
 ·rw [if_neg hm, show ((l.length : Int) == m) = false by simpa using hm]
  exact (listF_stays f l (by decide) _).symm
theorem insE_call {G : Int} {fs : List Fun} {f : Fun} {x : Ins} {e : Int} {j : Nat} (hk : x.f0.toNat < 18) (hj : j < (table.getD x.f0.toNat []).length) (h : insE G fs f x e j = 0)
  (hp : (table.getD x.f0.toNat []).getD j .i = .A ∨ (table.getD x.f0.toNat []).getD j .i = .B) : 0 ≤ x.f4 ∧ x.f4 < fs.length := by
 unfold insE at h
 split at h
 ·cases hr : runTo (fun _ j => askQ G fs f x f.f3.length ((table.getD x.f0.toNat []).getD j .i)) () j with
  | ok u => exact parts_call hk hj hr hp
  | error err =>
   rw [hr] at h
   exact (runTo_err_at (· ≠ 0) (fun _ _ _ h => askQ_err_ne h) _ hr h).elim
 ·rename_i he; exact absurd h he
theorem insQ_ok {G : Int} {fs : List Fun} {f : Fun} {l l' : Int} {x : Ins} {last : Bool} (h : opQ l x last = .ok l') : insQ G fs f l x last = (if insE G fs f x 0 (table.getD x.f0.toNat []).length = 0 then .ok l' else .error (insE G fs f x 0 (table.getD x.f0.toNat []).length)) := by
 unfold insQ
 rw [h]
 dsimp only
 unfold partsQ insE
 rw [if_pos rfl]
 cases hr : runTo (fun _ j => askQ G fs f x f.f3.length ((table.getD x.f0.toNat []).getD j .i)) () (table.getD x.f0.toNat []).length with
 | ok u => rfl
 | error err =>
  have : err ≠ 0 := runTo_err_at (· ≠ 0) (fun _ _ _ h => askQ_err_ne h) _ hr
  exact (if_neg this).symm
theorem insE_err (G : Int) (fs : List Fun) (f : Fun) (x : Ins) {e : Int} (he : e ≠ 0) (j : Nat) : insE G fs f x e j = e := if_neg he
structure LetAt (g : Nat) (v0 v1 : Value) (l' : Int) (e : Int) (f : Fun) (FA : Option Addr) (fc : Nat) (x : Ins) (A5 : Option Addr) (c5 : Nat) (A6 : Option Addr) (c6 : Nat) (w wr : World) : Prop where
 wk : WalkAt wr g v0 v1 l' e
 kp : Kept g w wr
 fn : wr.heap[w.heap.size]? = some (.cells #[.int .i64 f.f0, .int .i64 f.f1, .int .i64 f.f2, .slice FA f.f3.length fc] 66 (0, 0))
 is : wr.heap[w.heap.size + 1]? = some (.cells #[.int .i64 x.f0, .int .i64 x.f1, .int .i64 x.f2, .int .i64 x.f3, .int .i64 x.f4, .slice A5 x.f5.length c5, .slice A6 x.f6.length c6] 79 (0, 0))
theorem LetAt.step {g : Nat} {v0 v1 : Value} {l' e e1 : Int} {f : Fun} {FA : Option Addr} {fc : Nat} {x : Ins} {A5 : Option Addr} {c5 : Nat} {A6 : Option Addr} {c6 : Nat} {w wr w1 : World} (h : LetAt g v0 v1 l' e f FA fc x A5 c5 A6 c6 w wr) (hg : g < w.heap.size) (n : Nat) (hk : Kept g (wr.drewN n) w1) (hw : WalkAt w1 g v0 v1 l' e1) : LetAt g v0 v1 l' e1 f FA fc x A5 c5 A6 c6 w w1 :=
 ⟨hw, h.kp.trans (Kept.trans (w1 := wr.drewN n) ((Kept.of_below (Below.refl _ _)).drewN n) hk), (hk.block _ (blk_lt h.fn) (by omega)).trans h.fn, (hk.block _ (blk_lt h.is) (by omega)).trans h.is⟩
end Go.Proofs.YtcbcacbbnojdjaaGreatDoor
