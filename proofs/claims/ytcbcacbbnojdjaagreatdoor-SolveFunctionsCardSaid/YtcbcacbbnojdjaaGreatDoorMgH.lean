/-
 Part H of what the law's proof needs: walks of the program's functions and the plain laws of what they tell. No condition.
-/
import Derived.Test.YtcbcacbbnojdjaaGreatDoorMgD
import Derived.Test.YtcbcacbbnojdjaaGreatDoorMgE
namespace Go.Proofs.YtcbcacbbnojdjaaGreatDoor
open Go.RowKit Go.Proofs.YtcbcacbbnojdjaaGreatDoorW.PrintWords Go.Proofs.YtcbcacbbnojdjaaGreatDoor.PSolveFunctions
set_option linter.unusedVariables false
set_option linter.unusedSimpArgs false
def Part.ch : Part → UInt8
 | .R => 82 | .S => 83 | .T => 84 | .i => 105 | .c => 99 | .f => 102 | .g => 103 | .F => 70 | .J => 74 | .A => 65 | .B => 66 | .V => 86
def partStr (op : Int) : ByteArray := ⟨((if 1 ≤ op ∧ op < 18 then table.getD op.toNat [] else []).map Part.ch).toArray⟩
def partRow : Array Value := #[.string ⟨#[]⟩, .string ⟨#[82, 105]⟩, .string ⟨#[82, 83]⟩, .string ⟨#[82, 83, 84]⟩, .string ⟨#[82, 83, 84]⟩, .string ⟨#[82, 83]⟩, .string ⟨#[82, 99]⟩, .string ⟨#[82, 83, 102]⟩, .string ⟨#[82, 83, 102]⟩, .string ⟨#[82, 103]⟩, .string ⟨#[83, 103]⟩, .string ⟨#[70, 65, 66]⟩, .string ⟨#[83]⟩, .string ⟨#[74]⟩, .string ⟨#[83, 74]⟩, .string ⟨#[86]⟩, .string ⟨#[82]⟩, .string ⟨#[82, 83, 84]⟩]
theorem partRow_at (i : Int) (h0 : 1 ≤ i) (h1 : i < 18) : partRow[i.toNat]? = some (.string (partStr i)) := by
 have hk : i = 1 ∨ i = 2 ∨ i = 3 ∨ i = 4 ∨ i = 5 ∨ i = 6 ∨ i = 7 ∨ i = 8 ∨ i = 9 ∨ i = 10 ∨ i = 11 ∨ i = 12 ∨ i = 13 ∨ i = 14 ∨ i = 15 ∨ i = 16 ∨ i = 17 := by omega
 rcases hk with rfl | rfl | rfl | rfl | rfl | rfl | rfl | rfl | rfl | rfl | rfl | rfl | rfl | rfl | rfl | rfl | rfl <;> rfl
theorem partStr_none (i : Int) (h : ¬ (1 ≤ i ∧ i < 18)) : partStr i = ⟨#[]⟩ := by
 rw [partStr, if_neg h]
 rfl
set_option maxRecDepth 100000 in
set_option maxHeartbeats 3200000 in
theorem parts_any (i : Int) (w : World) : Calls Tryz.prog 159 #[.int .i64 i] w fun e w' => e = .returned (.string (partStr i)) ∧ Below w.heap.size w w' := by
 go_enter Tryz.func159, Tryz.ntmps159
 go_upto_region 2 with (fail)
 have hk := alloc_new w (.cells partRow 249)
 have hb := below1 w (.cells partRow 249)
 unfold partRow at hk hb
 generalize World.alloc _ _ = W at hk hb ⊢
 have HK := Lib.hid hk
 have HB := Lib.hid hb
 clear hk hb
 by_cases h : 1 ≤ i ∧ i < 18
 ·have hc : W.cell? ⟨w.heap.size, i.toNat, none⟩ = some (.string (partStr i)) := (blk_cell HK.out i.toNat).trans (partRow_at i h.1 h.2)
  have h0 : (0 : Int) ≤ i := by omega
  have h1 : i < 18 := h.2
  have d1 : decide (i < 1) = false := decide_eq_false (by omega)
  have d2 : decide (i > 17) = false := decide_eq_false (by omega)
  have d2' : decide (17 < i) = false := decide_eq_false (by omega)
  clear h
  go_wp2_with fail
  go_ret
  exact ⟨rfl, HB.out⟩
 ·have hs := Lib.hid (partStr_none i h)
  by_cases h1 : i < 1
  ·have d1 : decide (i < 1) = true := decide_eq_true h1
   clear h
   go_wp2_with fail
   go_ret
   exact ⟨by rw [hs.out]; rfl, HB.out⟩
  ·have d1 : decide (i < 1) = false := decide_eq_false h1
   have d2 : decide (i > 17) = true := decide_eq_true (by omega)
   have d2' : decide (17 < i) = true := decide_eq_true (by omega)
   clear h
   go_wp2_with fail
   go_ret
   exact ⟨by rw [hs.out]; rfl, HB.out⟩
def WalkAt (w : World) (g : Nat) (v0 v1 : Value) (l e : Int) : Prop := w.heap[g]? = some (.cells #[v0, v1, .int .i64 l, .int .i64 e] 167 (0, 0))
def stick (e : Int) (ok : Bool) (err : Int) : Int := if ok then e else if e = 0 then err else e
def sticks (w : World) (g : Nat) (v0 v1 : Value) (l e : Int) (r : Ending) (w' : World) : Prop := r = .returned (.tuple #[]) ∧ Kept g w w' ∧ WalkAt w' g v0 v1 l e
theorem mustR_any (g : Nat) (v0 v1 : Value) (l e : Int) (ok : Bool) (err : Int) (w : World) (h : WalkAt w g v0 v1 l e) : Calls Tryz.prog 115 #[.pointer (some ⟨g, 0, none⟩), .bool ok, .int .i64 err] w (sticks w g v0 v1 l (stick e ok err)) := by
 have c3 := blk_cell h 3
 have z3 := blk_frozen h 3
 simp only [List.getElem?_toArray, List.getElem?_cons_succ, List.getElem?_cons_zero] at c3
 cases ok with
 | true =>
  go_enter Tryz.func115, Tryz.ntmps115
  go_wp2_with fail
  go_end0
  exact ⟨rfl, Kept.of_below (Below.refl _ _), h⟩
 | false =>
  by_cases he : e = 0
  ·subst he
   go_enter Tryz.func115, Tryz.ntmps115
   go_wp2_with fail
   go_end0
   exact ⟨rfl, Kept.set _ _ _, blk_put h 3 _ rfl⟩
  ·have hb : (e == 0) = false := by simpa using he
   have hs : stick e false err = e := by simp [stick, he]
   have HS := Lib.hid hs
   clear hs
   go_enter Tryz.func115, Tryz.ntmps115
   go_wp2_with fail
   go_end0
   exact ⟨rfl, Kept.of_below (Below.refl _ _), by rw [HS.out]; exact h⟩
theorem walk_below {w w1 : World} {g : Nat} {v0 v1 : Value} {l e : Int} (h : WalkAt w g v0 v1 l e) (hb : Below w.heap.size w w1) : WalkAt w1 g v0 v1 l e := (hb.block g (blk_lt h)).trans h
set_option maxRecDepth 100000 in
set_option maxHeartbeats 1600000 in
theorem vaR' (g : Nat) (v0 v1 : Value) (l e : Int) (f : Fun) (fa : Value) (hfa : fa.oneCell' = true) (v : Int) (w : World) (h : WalkAt w g v0 v1 l e) (hfs : ∃ A n c, fa = .slice A n c) : Calls Tryz.prog 160 #[.pointer (some ⟨g, 0, none⟩), .agg #[.int .i64 f.f0, .int .i64 f.f1, .int .i64 f.f2, fa], .int .i64 v] w (sticks w g v0 v1 l (stick e (varOk f v) 13)) := by
 obtain ⟨A, n, c, rfl⟩ := hfs
 have hb := below1 w (.cells #[.int .i64 f.f0, .int .i64 f.f1, .int .i64 f.f2, .slice A n c] 66)
 have HB := Lib.hid hb
 have HW := Lib.hid (walk_below h hb)
 clear hb h
 have hm := fun ok => mustR_any g v0 v1 l e ok 13 _ HW.out
 have HM := Lib.hid hm
 clear hm
 by_cases h1 : 0 ≤ v
 ·by_cases h2 : v < f.f2
  ·have HV := Lib.hid (show varOk f v = true from decide_eq_true ⟨h1, h2⟩)
   have d1 : decide (0 ≤ v) = true := decide_eq_true h1
   have d2 : decide (v < f.f2) = true := decide_eq_true h2
   go_enter Tryz.func160, Tryz.ntmps160
   go_wp2_with fail
   refine (HM.out true).mono ?_
   rintro r w1 ⟨rfl, hs⟩
   have HS := Lib.hid hs
   clear hs
   go_wp2_with fail
   go_end0
   exact ⟨rfl, (Kept.of_below HB.out).trans HS.out.1, by rw [HV.out]; exact HS.out.2⟩
  ·have HV := Lib.hid (show varOk f v = false from decide_eq_false (fun h => h2 h.2))
   have d1 : decide (0 ≤ v) = true := decide_eq_true h1
   have d2 : decide (v < f.f2) = false := decide_eq_false h2
   go_enter Tryz.func160, Tryz.ntmps160
   go_wp2_with fail
   refine (HM.out false).mono ?_
   rintro r w1 ⟨rfl, hs⟩
   have HS := Lib.hid hs
   clear hs
   go_wp2_with fail
   go_end0
   exact ⟨rfl, (Kept.of_below HB.out).trans HS.out.1, by rw [HV.out]; exact HS.out.2⟩
 ·have HV := Lib.hid (show varOk f v = false from decide_eq_false (fun h => h1 h.1))
  have d1 : decide (0 ≤ v) = false := decide_eq_false h1
  go_enter Tryz.func160, Tryz.ntmps160
  go_wp2_with fail
  refine (HM.out false).mono ?_
  rintro r w1 ⟨rfl, hs⟩
  have HS := Lib.hid hs
  clear hs
  go_wp2_with fail
  go_end0
  exact ⟨rfl, (Kept.of_below HB.out).trans HS.out.1, by rw [HV.out]; exact HS.out.2⟩
theorem vaR_any (g : Nat) (v0 v1 : Value) (l e : Int) (f : Fun) (A : Option Addr) (n c : Nat) (v : Int) (w : World) (h : WalkAt w g v0 v1 l e) : Calls Tryz.prog 160 #[.pointer (some ⟨g, 0, none⟩), .agg #[.int .i64 f.f0, .int .i64 f.f1, .int .i64 f.f2, .slice A n c], .int .i64 v] w (sticks w g v0 v1 l (stick e (varOk f v) 13)) :=
 vaR' g v0 v1 l e f _ rfl v w h ⟨A, n, c, rfl⟩
set_option maxRecDepth 100000 in
set_option maxHeartbeats 1600000 in
theorem numi_any (g : Nat) (v0 v1 : Value) (l e v n : Int) (w : World) (h : WalkAt w g v0 v1 l e) : Calls Tryz.prog 162 #[.pointer (some ⟨g, 0, none⟩), .int .u8 105, .int .i64 v, .int .i64 n] w (sticks w g v0 v1 l e) := by
 go_enter Tryz.func162, Tryz.ntmps162
 go_wp2_with fail
 go_end0
 exact ⟨rfl, Kept.of_below (Below.refl _ _), h⟩
set_option maxRecDepth 100000 in
set_option maxHeartbeats 1600000 in
theorem numc_any (g : Nat) (v0 v1 : Value) (l e v n : Int) (w : World) (h : WalkAt w g v0 v1 l e) : Calls Tryz.prog 162 #[.pointer (some ⟨g, 0, none⟩), .int .u8 99, .int .i64 v, .int .i64 n] w (sticks w g v0 v1 l (stick e (decide (1 ≤ v ∧ v ≤ 8)) 17)) := by
 have HM := Lib.hid (fun ok => mustR_any g v0 v1 l e ok 17 w h)
 clear h
 by_cases h1 : 1 ≤ v
 ·have d1 : decide (1 ≤ v) = true := decide_eq_true h1
  have HD := Lib.hid (show decide (1 ≤ v ∧ v ≤ 8) = decide (v ≤ 8) by simp [h1])
  obtain ⟨B, hB⟩ : ∃ B, decide (v ≤ 8) = B := ⟨_, rfl⟩
  have HB := Lib.hid hB
  clear h1
  go_enter Tryz.func162, Tryz.ntmps162
  go_wp2_with fail
  refine (HM.out B).mono ?_
  rintro r w1 ⟨rfl, hs⟩
  have HS := Lib.hid hs
  clear hs
  go_wp2_with fail
  go_end0
  exact ⟨rfl, HS.out.1, by rw [HD.out, HB.out]; exact HS.out.2⟩
 ·have d1 : decide (1 ≤ v) = false := decide_eq_false h1
  have HD := Lib.hid (show decide (1 ≤ v ∧ v ≤ 8) = false from decide_eq_false (fun h => h1 h.1))
  clear h1
  go_enter Tryz.func162, Tryz.ntmps162
  go_wp2_with fail
  refine (HM.out false).mono ?_
  rintro r w1 ⟨rfl, hs⟩
  have HS := Lib.hid hs
  clear hs
  go_wp2_with fail
  go_end0
  exact ⟨rfl, HS.out.1, by rw [HD.out]; exact HS.out.2⟩
set_option maxRecDepth 100000 in
set_option maxHeartbeats 1600000 in
theorem numf_any (g : Nat) (v0 v1 : Value) (l e v n : Int) (w : World) (h : WalkAt w g v0 v1 l e) : Calls Tryz.prog 162 #[.pointer (some ⟨g, 0, none⟩), .int .u8 102, .int .i64 v, .int .i64 n] w (sticks w g v0 v1 l (stick e (decide (0 ≤ v ∧ v < 8)) 17)) := by
 have HM := Lib.hid (fun ok => mustR_any g v0 v1 l e ok 17 w h)
 clear h
 by_cases h1 : 0 ≤ v
 ·have d1 : decide (0 ≤ v) = true := decide_eq_true h1
  have HD := Lib.hid (show decide (0 ≤ v ∧ v < 8) = decide (v < 8) by simp [h1])
  obtain ⟨B, hB⟩ : ∃ B, decide (v < 8) = B := ⟨_, rfl⟩
  have HB := Lib.hid hB
  clear h1
  go_enter Tryz.func162, Tryz.ntmps162
  go_wp2_with fail
  refine (HM.out B).mono ?_
  rintro r w1 ⟨rfl, hs⟩
  have HS := Lib.hid hs
  clear hs
  go_wp2_with fail
  go_end0
  exact ⟨rfl, HS.out.1, by rw [HD.out, HB.out]; exact HS.out.2⟩
 ·have d1 : decide (0 ≤ v) = false := decide_eq_false h1
  have HD := Lib.hid (show decide (0 ≤ v ∧ v < 8) = false from decide_eq_false (fun h => h1 h.1))
  clear h1
  go_enter Tryz.func162, Tryz.ntmps162
  go_wp2_with fail
  refine (HM.out false).mono ?_
  rintro r w1 ⟨rfl, hs⟩
  have HS := Lib.hid hs
  clear hs
  go_wp2_with fail
  go_end0
  exact ⟨rfl, HS.out.1, by rw [HD.out]; exact HS.out.2⟩
set_option maxRecDepth 100000 in
set_option maxHeartbeats 1600000 in
theorem numJ_any (g : Nat) (v0 v1 : Value) (l e v n : Int) (w : World) (h : WalkAt w g v0 v1 l e) : Calls Tryz.prog 162 #[.pointer (some ⟨g, 0, none⟩), .int .u8 74, .int .i64 v, .int .i64 n] w (sticks w g v0 v1 l (stick e (decide (0 ≤ v ∧ v < n)) 16)) := by
 have HM := Lib.hid (fun ok => mustR_any g v0 v1 l e ok 16 w h)
 clear h
 by_cases h1 : 0 ≤ v
 ·have d1 : decide (0 ≤ v) = true := decide_eq_true h1
  have HD := Lib.hid (show decide (0 ≤ v ∧ v < n) = decide (v < n) by simp [h1])
  obtain ⟨B, hB⟩ : ∃ B, decide (v < n) = B := ⟨_, rfl⟩
  have HB := Lib.hid hB
  clear h1
  go_enter Tryz.func162, Tryz.ntmps162
  go_wp2_with fail
  refine (HM.out B).mono ?_
  rintro r w1 ⟨rfl, hs⟩
  have HS := Lib.hid hs
  clear hs
  go_wp2_with fail
  go_end0
  exact ⟨rfl, HS.out.1, by rw [HD.out, HB.out]; exact HS.out.2⟩
 ·have d1 : decide (0 ≤ v) = false := decide_eq_false h1
  have HD := Lib.hid (show decide (0 ≤ v ∧ v < n) = false from decide_eq_false (fun h => h1 h.1))
  clear h1
  go_enter Tryz.func162, Tryz.ntmps162
  go_wp2_with fail
  refine (HM.out false).mono ?_
  rintro r w1 ⟨rfl, hs⟩
  have HS := Lib.hid hs
  clear hs
  go_wp2_with fail
  go_end0
  exact ⟨rfl, HS.out.1, by rw [HD.out]; exact HS.out.2⟩
set_option maxRecDepth 100000 in
set_option maxHeartbeats 1600000 in
theorem numg_any (g : Nat) (G : Int) (A : Option Addr) (m c : Nat) (l e v n : Int) (w : World) (h : WalkAt w g (.int .i64 G) (.slice A m c) l e) : Calls Tryz.prog 162 #[.pointer (some ⟨g, 0, none⟩), .int .u8 103, .int .i64 v, .int .i64 n] w (sticks w g (.int .i64 G) (.slice A m c) l (stick e (decide (0 ≤ v ∧ v < G)) 18)) := by
 have k0 := blk_cell h 0
 have k1 := blk_cell h 1
 simp only [List.getElem?_toArray, List.getElem?_cons_succ, List.getElem?_cons_zero] at k0 k1
 have HM := Lib.hid (fun ok => mustR_any g (.int .i64 G) (.slice A m c) l e ok 18 w h)
 clear h
 by_cases h1 : 0 ≤ v
 ·have d1 : decide (0 ≤ v) = true := decide_eq_true h1
  have HD := Lib.hid (show decide (0 ≤ v ∧ v < G) = decide (v < G) by simp [h1])
  obtain ⟨B, hB⟩ : ∃ B, decide (v < G) = B := ⟨_, rfl⟩
  have HB := Lib.hid hB
  clear h1
  go_enter Tryz.func162, Tryz.ntmps162
  go_wp2_with fail
  refine (HM.out B).mono ?_
  rintro r w1 ⟨rfl, hs⟩
  have HS := Lib.hid hs
  clear hs
  go_wp2_with fail
  go_end0
  exact ⟨rfl, HS.out.1, by rw [HD.out, HB.out]; exact HS.out.2⟩
 ·have d1 : decide (0 ≤ v) = false := decide_eq_false h1
  have HD := Lib.hid (show decide (0 ≤ v ∧ v < G) = false from decide_eq_false (fun h => h1 h.1))
  clear h1
  go_enter Tryz.func162, Tryz.ntmps162
  go_wp2_with fail
  refine (HM.out false).mono ?_
  rintro r w1 ⟨rfl, hs⟩
  have HS := Lib.hid hs
  clear hs
  go_wp2_with fail
  go_end0
  exact ⟨rfl, HS.out.1, by rw [HD.out]; exact HS.out.2⟩
set_option maxRecDepth 100000 in
set_option maxHeartbeats 1600000 in
theorem numF_any (g : Nat) (G : Int) (A : Option Addr) (m c : Nat) (l e v n : Int) (w : World) (h : WalkAt w g (.int .i64 G) (.slice A m c) l e) : Calls Tryz.prog 162 #[.pointer (some ⟨g, 0, none⟩), .int .u8 70, .int .i64 v, .int .i64 n] w (sticks w g (.int .i64 G) (.slice A m c) l (stick e (decide (0 ≤ v ∧ v < (m : Int))) 14)) := by
 have k0 := blk_cell h 0
 have k1 := blk_cell h 1
 simp only [List.getElem?_toArray, List.getElem?_cons_succ, List.getElem?_cons_zero] at k0 k1
 have HM := Lib.hid (fun ok => mustR_any g (.int .i64 G) (.slice A m c) l e ok 14 w h)
 clear h
 by_cases h1 : 0 ≤ v
 ·have d1 : decide (0 ≤ v) = true := decide_eq_true h1
  have HD := Lib.hid (show decide (0 ≤ v ∧ v < (m : Int)) = decide (v < (m : Int)) by simp [h1])
  obtain ⟨B, hB⟩ : ∃ B, decide (v < (m : Int)) = B := ⟨_, rfl⟩
  have HB := Lib.hid hB
  clear h1
  go_enter Tryz.func162, Tryz.ntmps162
  go_wp2_with fail
  refine (HM.out B).mono ?_
  rintro r w1 ⟨rfl, hs⟩
  have HS := Lib.hid hs
  clear hs
  go_wp2_with fail
  go_end0
  exact ⟨rfl, HS.out.1, by rw [HD.out, HB.out]; exact HS.out.2⟩
 ·have d1 : decide (0 ≤ v) = false := decide_eq_false h1
  have HD := Lib.hid (show decide (0 ≤ v ∧ v < (m : Int)) = false from decide_eq_false (fun h => h1 h.1))
  clear h1
  go_enter Tryz.func162, Tryz.ntmps162
  go_wp2_with fail
  refine (HM.out false).mono ?_
  rintro r w1 ⟨rfl, hs⟩
  have HS := Lib.hid hs
  clear hs
  go_wp2_with fail
  go_end0
  exact ⟨rfl, HS.out.1, by rw [HD.out]; exact HS.out.2⟩
set_option maxRecDepth 100000 in
set_option maxHeartbeats 1600000 in
theorem wantA_any (g : Nat) (G : Int) (A : Option Addr) (c : Nat) (fs : List Fun) (l e : Int) (f : Fun) (fv : Value) (x : Ins) (A5 : Option Addr) (n5 c5 : Nat) (A6 : Option Addr) (n6 c6 : Nat) (w : World) (h : WalkAt w g (.int .i64 G) (.slice A fs.length c) l e) (hfv : ∃ B n d, fv = .slice B n d)
  (hC : k66.C w A fs.length fs) (h0 : 0 ≤ x.f4) (h1 : x.f4 < fs.length) :
  Calls Tryz.prog 197 #[.pointer (some ⟨g, 0, none⟩), .int .u8 65, .agg #[.int .i64 f.f0, .int .i64 f.f1, .int .i64 f.f2, fv], .agg #[.int .i64 x.f0, .int .i64 x.f1, .int .i64 x.f2, .int .i64 x.f3, .int .i64 x.f4, .slice A5 n5 c5, .slice A6 n6 c6]] w fun r w' => r = .returned (.int .i64 (fs.getD x.f4.toNat zF).f0) ∧ Below w.heap.size w w' := by
 obtain ⟨B, n, d, rfl⟩ := hfv
 obtain ⟨ad, A3, c3, hAd, e0, e1, e2, e3, _, _⟩ := at_T66 hC x.f4 h0 h1
 unfold rd_T66 at e0 e1 e2 e3
 generalize fs.getD x.f4.toNat zF = y at e0 e1 e2 e3 ⊢
 have k1 := blk_cell h 1
 simp only [List.getElem?_toArray, List.getElem?_cons_succ, List.getElem?_cons_zero] at k1
 rw [hAd] at k1
 clear hAd hC h
 generalize x.f4 = i at e0 e1 e2 e3 h0 h1 ⊢
 go_enter Tryz.func197, Tryz.ntmps197
 go_wp2_with fail
 have hn := alloc_new (w.alloc (.cells #[.int .i64 f.f0, .int .i64 f.f1, .int .i64 f.f2, .slice B n d] 66)) (.cells #[.int .i64 x.f0, .int .i64 x.f1, .int .i64 x.f2, .int .i64 x.f3, .int .i64 i, .slice A5 n5 c5, .slice A6 n6 c6] 79)
 have hb : Below w.heap.size w ((w.alloc (.cells #[.int .i64 f.f0, .int .i64 f.f1, .int .i64 f.f2, .slice B n d] 66)).alloc (.cells #[.int .i64 x.f0, .int .i64 x.f1, .int .i64 x.f2, .int .i64 x.f3, .int .i64 i, .slice A5 n5 c5, .slice A6 n6 c6] 79)) := (below1 _ _).alloc (by simp) _
 rw [show (w.alloc (.cells #[.int .i64 f.f0, .int .i64 f.f1, .int .i64 f.f2, .slice B n d] 66)).heap.size = w.heap.size + 1 by simp] at hn
 generalize World.alloc _ _ = W at hn hb ⊢
 have kk := below_cells hb _ _ k1
 have ee := below_cells hb _ _ e0
 have h4 := blk_cell hn 4
 simp only [List.getElem?_toArray, List.getElem?_cons_succ, List.getElem?_cons_zero] at h4
 have HB := Lib.hid hb
 clear hn hb k1 e0 e1 e2 e3
 go_quiet (fail)
 go_wp2_with fail
 go_ret
 exact ⟨rfl, pw_below_drewN HB.out _⟩
set_option maxRecDepth 100000 in
set_option maxHeartbeats 1600000 in
theorem wantB_any (g : Nat) (G : Int) (A : Option Addr) (c : Nat) (fs : List Fun) (l e : Int) (f : Fun) (fv : Value) (x : Ins) (A5 : Option Addr) (n5 c5 : Nat) (A6 : Option Addr) (n6 c6 : Nat) (w : World) (h : WalkAt w g (.int .i64 G) (.slice A fs.length c) l e) (hfv : ∃ B n d, fv = .slice B n d)
  (hC : k66.C w A fs.length fs) (h0 : 0 ≤ x.f4) (h1 : x.f4 < fs.length) :
  Calls Tryz.prog 197 #[.pointer (some ⟨g, 0, none⟩), .int .u8 66, .agg #[.int .i64 f.f0, .int .i64 f.f1, .int .i64 f.f2, fv], .agg #[.int .i64 x.f0, .int .i64 x.f1, .int .i64 x.f2, .int .i64 x.f3, .int .i64 x.f4, .slice A5 n5 c5, .slice A6 n6 c6]] w fun r w' => r = .returned (.int .i64 (fs.getD x.f4.toNat zF).f1) ∧ Below w.heap.size w w' := by
 obtain ⟨B, n, d, rfl⟩ := hfv
 obtain ⟨ad, A3, c3, hAd, e0, e1, e2, e3, _, _⟩ := at_T66 hC x.f4 h0 h1
 unfold rd_T66 at e0 e1 e2 e3
 generalize fs.getD x.f4.toNat zF = y at e0 e1 e2 e3 ⊢
 have k1 := blk_cell h 1
 simp only [List.getElem?_toArray, List.getElem?_cons_succ, List.getElem?_cons_zero] at k1
 rw [hAd] at k1
 clear hAd hC h
 generalize x.f4 = i at e0 e1 e2 e3 h0 h1 ⊢
 go_enter Tryz.func197, Tryz.ntmps197
 go_wp2_with fail
 have hn := alloc_new (w.alloc (.cells #[.int .i64 f.f0, .int .i64 f.f1, .int .i64 f.f2, .slice B n d] 66)) (.cells #[.int .i64 x.f0, .int .i64 x.f1, .int .i64 x.f2, .int .i64 x.f3, .int .i64 i, .slice A5 n5 c5, .slice A6 n6 c6] 79)
 have hb : Below w.heap.size w ((w.alloc (.cells #[.int .i64 f.f0, .int .i64 f.f1, .int .i64 f.f2, .slice B n d] 66)).alloc (.cells #[.int .i64 x.f0, .int .i64 x.f1, .int .i64 x.f2, .int .i64 x.f3, .int .i64 i, .slice A5 n5 c5, .slice A6 n6 c6] 79)) := (below1 _ _).alloc (by simp) _
 rw [show (w.alloc (.cells #[.int .i64 f.f0, .int .i64 f.f1, .int .i64 f.f2, .slice B n d] 66)).heap.size = w.heap.size + 1 by simp] at hn
 generalize World.alloc _ _ = W at hn hb ⊢
 have kk := below_cells hb _ _ k1
 have ee := below_cells hb _ _ e1
 have h4 := blk_cell hn 4
 simp only [List.getElem?_toArray, List.getElem?_cons_succ, List.getElem?_cons_zero] at h4
 have HB := Lib.hid hb
 clear hn hb k1 e0 e1 e2 e3
 go_quiet (fail)
 go_wp2_with fail
 go_ret
 exact ⟨rfl, pw_below_drewN HB.out _⟩
set_option maxRecDepth 100000 in
set_option maxHeartbeats 1600000 in
theorem wantV_any (g : Nat) (f : Fun) (fv : Value) (x : Ins) (A5 : Option Addr) (n5 c5 : Nat) (A6 : Option Addr) (n6 c6 : Nat) (w : World) (hfv : ∃ B n d, fv = .slice B n d) :
  Calls Tryz.prog 197 #[.pointer (some ⟨g, 0, none⟩), .int .u8 86, .agg #[.int .i64 f.f0, .int .i64 f.f1, .int .i64 f.f2, fv], .agg #[.int .i64 x.f0, .int .i64 x.f1, .int .i64 x.f2, .int .i64 x.f3, .int .i64 x.f4, .slice A5 n5 c5, .slice A6 n6 c6]] w fun r w' => r = .returned (.int .i64 f.f1) ∧ Below w.heap.size w w' := by
 obtain ⟨B, n, d, rfl⟩ := hfv
 go_enter Tryz.func197, Tryz.ntmps197
 go_wp2_with fail
 go_ret
 exact ⟨rfl, (below1 _ _).alloc (by simp) _⟩
def nmB (op : Int) (ch : Int) : Bool := (List.range (partStr op).size).any fun m : Nat => bt (partStr op) (m : Int) == ch
theorem partStr_short (op : Int) : (partStr op).size ≤ 3 := by
 show ((if 1 ≤ op ∧ op < 18 then table.getD op.toNat [] else []).map Part.ch).toArray.size ≤ 3
 split
 ·simp only [List.size_toArray, List.length_map]; exact table_short _
 ·simp
set_option maxRecDepth 100000 in
set_option maxHeartbeats 1600000 in
theorem names_any (op ch : Int) (w : World) : Calls Tryz.prog 209 #[.int .i64 op, .int .u8 ch] w fun e w' => e = .returned (.bool (nmB op ch)) ∧ Below w.heap.size w w' := by
 have hs := partStr_short op
 have HN := Lib.hid (show nmB op ch = (List.range (partStr op).size).any fun m : Nat => bt (partStr op) (m : Int) == ch from rfl)
 have HP := Lib.hid (parts_any op w)
 generalize partStr op = s at hs HN HP
 have hu := Tryz.underlying9
 go_enter Tryz.func209, Tryz.ntmps209
 go_wp2_with fail
 refine HP.out.mono ?_
 rintro e w1 ⟨rfl, hb⟩
 have HB := Lib.hid hb
 clear hb
 go_wp2_with fail
 go_loopw [6] (fun i wr => ∃ j : Nat, j ≤ s.size ∧ i = .int .i64 j ∧ wr = w1 ∧ ∀ m : Nat, m < j → (bt s (m : Int) == ch) = false) (fun i _ => s.size - (intOf i).toNat)
 case atStart => exact ⟨0, by omega, rfl, by trivial, fun m h => absurd h (by omega)⟩
 case round =>
  obtain ⟨j, hj, rfl, rfl, hR⟩ := hrel
  have HR := Lib.hid hR
  clear hR
  by_cases hlt : j < s.size
  ·obtain ⟨c0, hc0⟩ : ∃ c0 : Int, ((s[j]'hlt).toNat : Int) = c0 := ⟨_, rfl⟩
   have hb0 : bt s (j : Int) = c0 := by
    rw [← hc0]
    exact (bt_at s (j : Int) (by simpa using hlt)).symm
   have HC := Lib.hid hb0
   clear hb0
   obtain ⟨B, hB⟩ : ∃ B, (c0 == ch) = B := ⟨_, rfl⟩
   have HBB := Lib.hid hB
   cases B with
   | true =>
    go_wp2_with fail
    go_ret
    refine ⟨?_, HB.out⟩
    rw [HN.out, show ((List.range s.size).any fun m : Nat => bt s (m : Int) == ch) = true from List.any_eq_true.2 ⟨j, List.mem_range.2 hlt, by rw [HC.out, HBB.out]⟩]
    rfl
   | false =>
    go_wp2_with fail
    go_roundw
    case rel => exact ⟨j + 1, by omega, by go_num, by trivial, fun m hm => by
     by_cases h : m < j
     ·exact HR.out m h
     ·obtain rfl : m = j := by omega
      rw [HC.out, HBB.out]⟩
    case measure => simp [intOf]; omega
  ·obtain rfl : j = s.size := by omega
   go_wp2_with fail
   go_ret
   refine ⟨?_, HB.out⟩
   rw [HN.out, show ((List.range s.size).any fun m : Nat => bt s (m : Int) == ch) = false from List.any_eq_false.2 (fun m hm => by rw [HR.out m (List.mem_range.1 hm)]; decide)]
   rfl
section
variable {P : Program} {ops : Array Oper} {Q : Exit → Act → World → Prop} {o : Oper} {rest : List Oper} {a : Act} {W : World}
theorem wpList_when (b : Bool) (v : Value) (hw : Region.wanted o (yielded ops a.tmps) = b) (hrun : b = true → (execOp a.eval o).run P W = .ok (.value v) W) (k : wpList P ops Q rest (a.put o.dst (if b then v else undef)) W) : wpList P ops Q (o :: rest) a W := by
 refine wpList_step (fun K hK => ?_)
 cases b with
 | true => exact event_step hw (hrun rfl) (hK _ _ k)
 | false =>
  rw [if_neg (by rw [hw]; decide)]
  exact hK _ _ k
theorem wpList_whenCall (b : Bool) (v : Value) (f : Nat) (args : Array Value) (hw : Region.wanted o (yielded ops a.tmps) = b) (hrun : b = true → (execOp a.eval o).run P W = .ok (.enter f args) W) (hc : Calls P f args W fun e w' => e = .returned v ∧ Below W.heap.size W w')
  (k : ∀ w', Below W.heap.size W w' → wpList P ops Q rest (a.put o.dst (if b then v else undef)) w') : wpList P ops Q (o :: rest) a W := by
 refine wpList_step (fun K hK => ?_)
 cases b with
 | true =>
  rw [if_pos hw]
  unfold Oper.wp
  rw [hrun rfl, Oper.upon_enter]
  refine hc.mono ?_
  rintro e w' ⟨rfl, hb⟩
  exact hK _ _ (k w' hb)
 | false =>
  rw [if_neg (by rw [hw]; decide)]
  exact hK _ _ (k W (Below.refl _ _))
end
def plainR (x : Ins) : Bool :=
 (((((((x.f1 == 0) || nmB x.f0 82) && ((x.f2 == 0) || nmB x.f0 83)) && ((x.f3 == 0) || nmB x.f0 84)) && ((x.f4 == 0) || (((((nmB x.f0 105 || nmB x.f0 99) || nmB x.f0 102) || nmB x.f0 103) || nmB x.f0 70) || nmB x.f0 74))) && (((x.f5.length : Int) == 0) || (nmB x.f0 65 || nmB x.f0 86))) && (((x.f6.length : Int) == 0) || nmB x.f0 66))
set_option maxRecDepth 100000 in
set_option maxHeartbeats 6400000 in
theorem plainR_any (x : Ins) (A5 : Option Addr) (c5 : Nat) (A6 : Option Addr) (c6 : Nat) (w : World) :
  Calls Tryz.prog 196 #[.agg #[.int .i64 x.f0, .int .i64 x.f1, .int .i64 x.f2, .int .i64 x.f3, .int .i64 x.f4, .slice A5 x.f5.length c5, .slice A6 x.f6.length c6]] w fun e w' => e = .returned (.bool (plainR x)) ∧ Below w.heap.size w w' := by
 have hpl : plainR x = (((((((x.f1 == 0) || nmB x.f0 82) && ((x.f2 == 0) || nmB x.f0 83)) && ((x.f3 == 0) || nmB x.f0 84)) && ((x.f4 == 0) || (((((nmB x.f0 105 || nmB x.f0 99) || nmB x.f0 102) || nmB x.f0 103) || nmB x.f0 70) || nmB x.f0 74))) && (((x.f5.length : Int) == 0) || (nmB x.f0 65 || nmB x.f0 86))) && (((x.f6.length : Int) == 0) || nmB x.f0 66)) := rfl
 generalize x.f0 = i0 at hpl ⊢
 generalize x.f1 = i1 at hpl ⊢
 generalize x.f2 = i2 at hpl ⊢
 generalize x.f3 = i3 at hpl ⊢
 generalize x.f4 = i4 at hpl ⊢
 generalize x.f5.length = n5 at hpl ⊢
 generalize x.f6.length = n6 at hpl ⊢
 obtain ⟨ni, hni⟩ : ∃ b, nmB i0 105 = b := ⟨_, rfl⟩
 obtain ⟨nc, hnc⟩ : ∃ b, nmB i0 99 = b := ⟨_, rfl⟩
 obtain ⟨nf, hnf⟩ : ∃ b, nmB i0 102 = b := ⟨_, rfl⟩
 obtain ⟨ng, hng⟩ : ∃ b, nmB i0 103 = b := ⟨_, rfl⟩
 obtain ⟨nF, hnF⟩ : ∃ b, nmB i0 70 = b := ⟨_, rfl⟩
 obtain ⟨nJ, hnJ⟩ : ∃ b, nmB i0 74 = b := ⟨_, rfl⟩
 obtain ⟨nA, hnA⟩ : ∃ b, nmB i0 65 = b := ⟨_, rfl⟩
 obtain ⟨nV, hnV⟩ : ∃ b, nmB i0 86 = b := ⟨_, rfl⟩
 obtain ⟨nR, hnR⟩ : ∃ b, nmB i0 82 = b := ⟨_, rfl⟩
 obtain ⟨nS, hnS⟩ : ∃ b, nmB i0 83 = b := ⟨_, rfl⟩
 obtain ⟨nT, hnT⟩ : ∃ b, nmB i0 84 = b := ⟨_, rfl⟩
 obtain ⟨nB, hnB⟩ : ∃ b, nmB i0 66 = b := ⟨_, rfl⟩
 obtain ⟨yR, hyR⟩ : ∃ b, (i1 == 0) = b := ⟨_, rfl⟩
 obtain ⟨yS, hyS⟩ : ∃ b, (i2 == 0) = b := ⟨_, rfl⟩
 obtain ⟨yT, hyT⟩ : ∃ b, (i3 == 0) = b := ⟨_, rfl⟩
 obtain ⟨yN, hyN⟩ : ∃ b, (i4 == 0) = b := ⟨_, rfl⟩
 obtain ⟨yA, hyA⟩ : ∃ b, ((n5 : Int) == 0) = b := ⟨_, rfl⟩
 obtain ⟨yB, hyB⟩ : ∃ b, ((n6 : Int) == 0) = b := ⟨_, rfl⟩
 rw [hni, hnc, hnf, hng, hnF, hnJ, hnA, hnV, hnR, hnS, hnT, hnB, hyR, hyS, hyT, hyN, hyA, hyB] at hpl
 have HPL := Lib.hid hpl
 have Hni := Lib.hid hni
 have Hnc := Lib.hid hnc
 have Hnf := Lib.hid hnf
 have Hng := Lib.hid hng
 have HnF := Lib.hid hnF
 have HnJ := Lib.hid hnJ
 have HnA := Lib.hid hnA
 have HnV := Lib.hid hnV
 have HnR := Lib.hid hnR
 have HnS := Lib.hid hnS
 have HnT := Lib.hid hnT
 have HnB := Lib.hid hnB
 clear hpl hni hnc hnf hng hnF hnJ hnA hnV hnR hnS hnT hnB
 go_enter Tryz.func196, Tryz.ntmps196
 go_upto_region 1 with (fail)
 have hx := alloc_new w (.cells #[.int .i64 i0, .int .i64 i1, .int .i64 i2, .int .i64 i3, .int .i64 i4, .slice A5 n5 c5, .slice A6 n6 c6] 79)
 have hb := below1 w (.cells #[.int .i64 i0, .int .i64 i1, .int .i64 i2, .int .i64 i3, .int .i64 i4, .slice A5 n5 c5, .slice A6 n6 c6] 79)
 generalize World.alloc _ _ = W at hx hb ⊢
 have HB := Lib.hid hb
 clear hb
 generalize hbx : w.heap.size = bx at hx ⊢
 have HX := Lib.hid hx
 clear hx hbx
 go_step
 refine wpList_when (true) (.pointer (some ⟨bx, 0, none⟩)) (by rfl) (by intro _; simp [go_sem]) ?_
 simp only [Act.put, List.setIfInBounds_toArray, List.set_cons_succ, List.set_cons_zero, if_true, ↓reduceIte]
 have ce := blk_cell HX.out 0
 simp only [List.getElem?_toArray, List.getElem?_cons_succ, List.getElem?_cons_zero] at ce
 refine wpList_when (true) (.int .i64 i0) (by rfl) (by intro _; simp [go_sem, ce]) ?_
 simp only [Act.put, List.setIfInBounds_toArray, List.set_cons_succ, List.set_cons_zero, if_true, ↓reduceIte]
 clear ce
 refine wpList_whenCall (true) (.bool ni) 209 #[.int .i64 i0, .int .u8 105] (by rfl) (by intro _; simp [go_sem]) (by have := names_any i0 105 W; rw [Hni.out] at this; exact this) ?_
 intro w1 hb'
 replace HX := Lib.hid ((hb'.block _ (blk_lt HX.out)).trans HX.out)
 replace HB := Lib.hid (HB.out.trans (hb'.mono HB.out.size))
 clear hb'
 simp only [Act.put, List.setIfInBounds_toArray, List.set_cons_succ, List.set_cons_zero, if_true, ↓reduceIte]
 refine wpList_when (true) (.bool ni) (by rfl) (by intro _; simp [go_sem]) ?_
 simp only [Act.put, List.setIfInBounds_toArray, List.set_cons_succ, List.set_cons_zero, if_true, ↓reduceIte]
 refine wpList_when (!ni) (.pointer (some ⟨bx, 0, none⟩)) (by cases ni <;> rfl) (by intro hb; cases ni <;> first | (exact absurd hb (by decide)) | simp [go_sem]) ?_
 simp only [Act.put, List.setIfInBounds_toArray, List.set_cons_succ, List.set_cons_zero, if_true, ↓reduceIte]
 have ce := blk_cell HX.out 0
 simp only [List.getElem?_toArray, List.getElem?_cons_succ, List.getElem?_cons_zero] at ce
 refine wpList_when (!ni) (.int .i64 i0) (by cases ni <;> rfl) (by intro hb; cases ni <;> first | (exact absurd hb (by decide)) | simp [go_sem, ce]) ?_
 simp only [Act.put, List.setIfInBounds_toArray, List.set_cons_succ, List.set_cons_zero, if_true, ↓reduceIte]
 clear ce
 refine wpList_whenCall (!ni) (.bool nc) 209 #[.int .i64 i0, .int .u8 99] (by cases ni <;> rfl) (by intro hb; cases ni <;> first | (exact absurd hb (by decide)) | simp [go_sem]) (by have := names_any i0 99 w1; rw [Hnc.out] at this; exact this) ?_
 intro w2 hb'
 replace HX := Lib.hid ((hb'.block _ (blk_lt HX.out)).trans HX.out)
 replace HB := Lib.hid (HB.out.trans (hb'.mono HB.out.size))
 clear hb'
 simp only [Act.put, List.setIfInBounds_toArray, List.set_cons_succ, List.set_cons_zero, if_true, ↓reduceIte]
 obtain ⟨p1, hp1⟩ : ∃ b, b = (ni || nc) := ⟨_, rfl⟩
 refine wpList_when (true) (.bool p1) (by rfl) (by intro _; subst hp1; cases nc <;> cases ni <;> simp [go_sem]) ?_
 simp only [Act.put, List.setIfInBounds_toArray, List.set_cons_succ, List.set_cons_zero, if_true, ↓reduceIte]
 have Hp1 := Lib.hid hp1
 clear hp1
 refine wpList_when (true) (.bool p1) (by rfl) (by intro _; simp [go_sem]) ?_
 simp only [Act.put, List.setIfInBounds_toArray, List.set_cons_succ, List.set_cons_zero, if_true, ↓reduceIte]
 refine wpList_when (!p1) (.pointer (some ⟨bx, 0, none⟩)) (by cases p1 <;> rfl) (by intro hb; cases p1 <;> first | (exact absurd hb (by decide)) | simp [go_sem]) ?_
 simp only [Act.put, List.setIfInBounds_toArray, List.set_cons_succ, List.set_cons_zero, if_true, ↓reduceIte]
 have ce := blk_cell HX.out 0
 simp only [List.getElem?_toArray, List.getElem?_cons_succ, List.getElem?_cons_zero] at ce
 refine wpList_when (!p1) (.int .i64 i0) (by cases p1 <;> rfl) (by intro hb; cases p1 <;> first | (exact absurd hb (by decide)) | simp [go_sem, ce]) ?_
 simp only [Act.put, List.setIfInBounds_toArray, List.set_cons_succ, List.set_cons_zero, if_true, ↓reduceIte]
 clear ce
 refine wpList_whenCall (!p1) (.bool nf) 209 #[.int .i64 i0, .int .u8 102] (by cases p1 <;> rfl) (by intro hb; cases p1 <;> first | (exact absurd hb (by decide)) | simp [go_sem]) (by have := names_any i0 102 w2; rw [Hnf.out] at this; exact this) ?_
 intro w3 hb'
 replace HX := Lib.hid ((hb'.block _ (blk_lt HX.out)).trans HX.out)
 replace HB := Lib.hid (HB.out.trans (hb'.mono HB.out.size))
 clear hb'
 simp only [Act.put, List.setIfInBounds_toArray, List.set_cons_succ, List.set_cons_zero, if_true, ↓reduceIte]
 obtain ⟨p2, hp2⟩ : ∃ b, b = (p1 || nf) := ⟨_, rfl⟩
 refine wpList_when (true) (.bool p2) (by rfl) (by intro _; subst hp2; cases nf <;> cases p1 <;> simp [go_sem]) ?_
 simp only [Act.put, List.setIfInBounds_toArray, List.set_cons_succ, List.set_cons_zero, if_true, ↓reduceIte]
 have Hp2 := Lib.hid hp2
 clear hp2
 refine wpList_when (true) (.bool p2) (by rfl) (by intro _; simp [go_sem]) ?_
 simp only [Act.put, List.setIfInBounds_toArray, List.set_cons_succ, List.set_cons_zero, if_true, ↓reduceIte]
 refine wpList_when (!p2) (.pointer (some ⟨bx, 0, none⟩)) (by cases p2 <;> rfl) (by intro hb; cases p2 <;> first | (exact absurd hb (by decide)) | simp [go_sem]) ?_
 simp only [Act.put, List.setIfInBounds_toArray, List.set_cons_succ, List.set_cons_zero, if_true, ↓reduceIte]
 have ce := blk_cell HX.out 0
 simp only [List.getElem?_toArray, List.getElem?_cons_succ, List.getElem?_cons_zero] at ce
 refine wpList_when (!p2) (.int .i64 i0) (by cases p2 <;> rfl) (by intro hb; cases p2 <;> first | (exact absurd hb (by decide)) | simp [go_sem, ce]) ?_
 simp only [Act.put, List.setIfInBounds_toArray, List.set_cons_succ, List.set_cons_zero, if_true, ↓reduceIte]
 clear ce
 refine wpList_whenCall (!p2) (.bool ng) 209 #[.int .i64 i0, .int .u8 103] (by cases p2 <;> rfl) (by intro hb; cases p2 <;> first | (exact absurd hb (by decide)) | simp [go_sem]) (by have := names_any i0 103 w3; rw [Hng.out] at this; exact this) ?_
 intro w4 hb'
 replace HX := Lib.hid ((hb'.block _ (blk_lt HX.out)).trans HX.out)
 replace HB := Lib.hid (HB.out.trans (hb'.mono HB.out.size))
 clear hb'
 simp only [Act.put, List.setIfInBounds_toArray, List.set_cons_succ, List.set_cons_zero, if_true, ↓reduceIte]
 obtain ⟨p3, hp3⟩ : ∃ b, b = (p2 || ng) := ⟨_, rfl⟩
 refine wpList_when (true) (.bool p3) (by rfl) (by intro _; subst hp3; cases ng <;> cases p2 <;> simp [go_sem]) ?_
 simp only [Act.put, List.setIfInBounds_toArray, List.set_cons_succ, List.set_cons_zero, if_true, ↓reduceIte]
 have Hp3 := Lib.hid hp3
 clear hp3
 refine wpList_when (true) (.bool p3) (by rfl) (by intro _; simp [go_sem]) ?_
 simp only [Act.put, List.setIfInBounds_toArray, List.set_cons_succ, List.set_cons_zero, if_true, ↓reduceIte]
 refine wpList_when (!p3) (.pointer (some ⟨bx, 0, none⟩)) (by cases p3 <;> rfl) (by intro hb; cases p3 <;> first | (exact absurd hb (by decide)) | simp [go_sem]) ?_
 simp only [Act.put, List.setIfInBounds_toArray, List.set_cons_succ, List.set_cons_zero, if_true, ↓reduceIte]
 have ce := blk_cell HX.out 0
 simp only [List.getElem?_toArray, List.getElem?_cons_succ, List.getElem?_cons_zero] at ce
 refine wpList_when (!p3) (.int .i64 i0) (by cases p3 <;> rfl) (by intro hb; cases p3 <;> first | (exact absurd hb (by decide)) | simp [go_sem, ce]) ?_
 simp only [Act.put, List.setIfInBounds_toArray, List.set_cons_succ, List.set_cons_zero, if_true, ↓reduceIte]
 clear ce
 refine wpList_whenCall (!p3) (.bool nF) 209 #[.int .i64 i0, .int .u8 70] (by cases p3 <;> rfl) (by intro hb; cases p3 <;> first | (exact absurd hb (by decide)) | simp [go_sem]) (by have := names_any i0 70 w4; rw [HnF.out] at this; exact this) ?_
 intro w5 hb'
 replace HX := Lib.hid ((hb'.block _ (blk_lt HX.out)).trans HX.out)
 replace HB := Lib.hid (HB.out.trans (hb'.mono HB.out.size))
 clear hb'
 simp only [Act.put, List.setIfInBounds_toArray, List.set_cons_succ, List.set_cons_zero, if_true, ↓reduceIte]
 obtain ⟨p4, hp4⟩ : ∃ b, b = (p3 || nF) := ⟨_, rfl⟩
 refine wpList_when (true) (.bool p4) (by rfl) (by intro _; subst hp4; cases nF <;> cases p3 <;> simp [go_sem]) ?_
 simp only [Act.put, List.setIfInBounds_toArray, List.set_cons_succ, List.set_cons_zero, if_true, ↓reduceIte]
 have Hp4 := Lib.hid hp4
 clear hp4
 refine wpList_when (true) (.bool p4) (by rfl) (by intro _; simp [go_sem]) ?_
 simp only [Act.put, List.setIfInBounds_toArray, List.set_cons_succ, List.set_cons_zero, if_true, ↓reduceIte]
 refine wpList_when (!p4) (.pointer (some ⟨bx, 0, none⟩)) (by cases p4 <;> rfl) (by intro hb; cases p4 <;> first | (exact absurd hb (by decide)) | simp [go_sem]) ?_
 simp only [Act.put, List.setIfInBounds_toArray, List.set_cons_succ, List.set_cons_zero, if_true, ↓reduceIte]
 have ce := blk_cell HX.out 0
 simp only [List.getElem?_toArray, List.getElem?_cons_succ, List.getElem?_cons_zero] at ce
 refine wpList_when (!p4) (.int .i64 i0) (by cases p4 <;> rfl) (by intro hb; cases p4 <;> first | (exact absurd hb (by decide)) | simp [go_sem, ce]) ?_
 simp only [Act.put, List.setIfInBounds_toArray, List.set_cons_succ, List.set_cons_zero, if_true, ↓reduceIte]
 clear ce
 refine wpList_whenCall (!p4) (.bool nJ) 209 #[.int .i64 i0, .int .u8 74] (by cases p4 <;> rfl) (by intro hb; cases p4 <;> first | (exact absurd hb (by decide)) | simp [go_sem]) (by have := names_any i0 74 w5; rw [HnJ.out] at this; exact this) ?_
 intro w6 hb'
 replace HX := Lib.hid ((hb'.block _ (blk_lt HX.out)).trans HX.out)
 replace HB := Lib.hid (HB.out.trans (hb'.mono HB.out.size))
 clear hb'
 simp only [Act.put, List.setIfInBounds_toArray, List.set_cons_succ, List.set_cons_zero, if_true, ↓reduceIte]
 obtain ⟨p5, hp5⟩ : ∃ b, b = (p4 || nJ) := ⟨_, rfl⟩
 refine wpList_when (true) (.bool p5) (by rfl) (by intro _; subst hp5; cases nJ <;> cases p4 <;> simp [go_sem]) ?_
 simp only [Act.put, List.setIfInBounds_toArray, List.set_cons_succ, List.set_cons_zero, if_true, ↓reduceIte]
 have Hp5 := Lib.hid hp5
 clear hp5
 refine wpList_when (true) (.bool p5) (by rfl) (by intro _; simp [go_sem]) ?_
 simp only [Act.put, List.setIfInBounds_toArray, List.set_cons_succ, List.set_cons_zero, if_true, ↓reduceIte]
 go_upto_region 2 with (fail)
 go_step
 refine wpList_when (true) (.pointer (some ⟨bx, 0, none⟩)) (by rfl) (by intro _; simp [go_sem]) ?_
 simp only [Act.put, List.setIfInBounds_toArray, List.set_cons_succ, List.set_cons_zero, if_true, ↓reduceIte]
 have ce := blk_cell HX.out 0
 simp only [List.getElem?_toArray, List.getElem?_cons_succ, List.getElem?_cons_zero] at ce
 refine wpList_when (true) (.int .i64 i0) (by rfl) (by intro _; simp [go_sem, ce]) ?_
 simp only [Act.put, List.setIfInBounds_toArray, List.set_cons_succ, List.set_cons_zero, if_true, ↓reduceIte]
 clear ce
 refine wpList_whenCall (true) (.bool nA) 209 #[.int .i64 i0, .int .u8 65] (by rfl) (by intro _; simp [go_sem]) (by have := names_any i0 65 w6; rw [HnA.out] at this; exact this) ?_
 intro w7 hb'
 replace HX := Lib.hid ((hb'.block _ (blk_lt HX.out)).trans HX.out)
 replace HB := Lib.hid (HB.out.trans (hb'.mono HB.out.size))
 clear hb'
 simp only [Act.put, List.setIfInBounds_toArray, List.set_cons_succ, List.set_cons_zero, if_true, ↓reduceIte]
 refine wpList_when (true) (.bool nA) (by rfl) (by intro _; simp [go_sem]) ?_
 simp only [Act.put, List.setIfInBounds_toArray, List.set_cons_succ, List.set_cons_zero, if_true, ↓reduceIte]
 refine wpList_when (!nA) (.pointer (some ⟨bx, 0, none⟩)) (by cases nA <;> rfl) (by intro hb; cases nA <;> first | (exact absurd hb (by decide)) | simp [go_sem]) ?_
 simp only [Act.put, List.setIfInBounds_toArray, List.set_cons_succ, List.set_cons_zero, if_true, ↓reduceIte]
 have ce := blk_cell HX.out 0
 simp only [List.getElem?_toArray, List.getElem?_cons_succ, List.getElem?_cons_zero] at ce
 refine wpList_when (!nA) (.int .i64 i0) (by cases nA <;> rfl) (by intro hb; cases nA <;> first | (exact absurd hb (by decide)) | simp [go_sem, ce]) ?_
 simp only [Act.put, List.setIfInBounds_toArray, List.set_cons_succ, List.set_cons_zero, if_true, ↓reduceIte]
 clear ce
 refine wpList_whenCall (!nA) (.bool nV) 209 #[.int .i64 i0, .int .u8 86] (by cases nA <;> rfl) (by intro hb; cases nA <;> first | (exact absurd hb (by decide)) | simp [go_sem]) (by have := names_any i0 86 w7; rw [HnV.out] at this; exact this) ?_
 intro w8 hb'
 replace HX := Lib.hid ((hb'.block _ (blk_lt HX.out)).trans HX.out)
 replace HB := Lib.hid (HB.out.trans (hb'.mono HB.out.size))
 clear hb'
 simp only [Act.put, List.setIfInBounds_toArray, List.set_cons_succ, List.set_cons_zero, if_true, ↓reduceIte]
 obtain ⟨p6, hp6⟩ : ∃ b, b = (nA || nV) := ⟨_, rfl⟩
 refine wpList_when (true) (.bool p6) (by rfl) (by intro _; subst hp6; cases nA <;> cases nV <;> simp [go_sem]) ?_
 simp only [Act.put, List.setIfInBounds_toArray, List.set_cons_succ, List.set_cons_zero, if_true, ↓reduceIte]
 have Hp6 := Lib.hid hp6
 clear hp6
 refine wpList_when (true) (.bool p6) (by rfl) (by intro _; simp [go_sem]) ?_
 simp only [Act.put, List.setIfInBounds_toArray, List.set_cons_succ, List.set_cons_zero, if_true, ↓reduceIte]
 go_upto_region 3 with (fail)
 go_step
 refine wpList_when (true) (.pointer (some ⟨bx, 1, none⟩)) (by rfl) (by intro _; simp [go_sem]) ?_
 simp only [Act.put, List.setIfInBounds_toArray, List.set_cons_succ, List.set_cons_zero, if_true, ↓reduceIte]
 have ce := blk_cell HX.out 1
 simp only [List.getElem?_toArray, List.getElem?_cons_succ, List.getElem?_cons_zero] at ce
 refine wpList_when (true) (.int .i64 i1) (by rfl) (by intro _; simp [go_sem, ce]) ?_
 simp only [Act.put, List.setIfInBounds_toArray, List.set_cons_succ, List.set_cons_zero, if_true, ↓reduceIte]
 clear ce
 refine wpList_when (true) (.bool yR) (by rfl) (by intro _; simp [go_sem, hyR]) ?_
 simp only [Act.put, List.setIfInBounds_toArray, List.set_cons_succ, List.set_cons_zero, if_true, ↓reduceIte]
 refine wpList_when (true) (.bool yR) (by rfl) (by intro _; simp [go_sem]) ?_
 simp only [Act.put, List.setIfInBounds_toArray, List.set_cons_succ, List.set_cons_zero, if_true, ↓reduceIte]
 refine wpList_when (!yR) (.pointer (some ⟨bx, 0, none⟩)) (by cases yR <;> rfl) (by intro hb; cases yR <;> first | (exact absurd hb (by decide)) | simp [go_sem]) ?_
 simp only [Act.put, List.setIfInBounds_toArray, List.set_cons_succ, List.set_cons_zero, if_true, ↓reduceIte]
 have ce := blk_cell HX.out 0
 simp only [List.getElem?_toArray, List.getElem?_cons_succ, List.getElem?_cons_zero] at ce
 refine wpList_when (!yR) (.int .i64 i0) (by cases yR <;> rfl) (by intro hb; cases yR <;> first | (exact absurd hb (by decide)) | simp [go_sem, ce]) ?_
 simp only [Act.put, List.setIfInBounds_toArray, List.set_cons_succ, List.set_cons_zero, if_true, ↓reduceIte]
 clear ce
 refine wpList_whenCall (!yR) (.bool nR) 209 #[.int .i64 i0, .int .u8 82] (by cases yR <;> rfl) (by intro hb; cases yR <;> first | (exact absurd hb (by decide)) | simp [go_sem]) (by have := names_any i0 82 w8; rw [HnR.out] at this; exact this) ?_
 intro w9 hb'
 replace HX := Lib.hid ((hb'.block _ (blk_lt HX.out)).trans HX.out)
 replace HB := Lib.hid (HB.out.trans (hb'.mono HB.out.size))
 clear hb'
 simp only [Act.put, List.setIfInBounds_toArray, List.set_cons_succ, List.set_cons_zero, if_true, ↓reduceIte]
 obtain ⟨p7, hp7⟩ : ∃ b, b = (yR || nR) := ⟨_, rfl⟩
 refine wpList_when (true) (.bool p7) (by rfl) (by intro _; subst hp7; cases nR <;> cases yR <;> simp [go_sem]) ?_
 simp only [Act.put, List.setIfInBounds_toArray, List.set_cons_succ, List.set_cons_zero, if_true, ↓reduceIte]
 have Hp7 := Lib.hid hp7
 clear hp7
 refine wpList_when (true) (.bool p7) (by rfl) (by intro _; simp [go_sem]) ?_
 simp only [Act.put, List.setIfInBounds_toArray, List.set_cons_succ, List.set_cons_zero, if_true, ↓reduceIte]
 refine wpList_when (p7) (.pointer (some ⟨bx, 2, none⟩)) (by cases p7 <;> rfl) (by intro hb; cases p7 <;> first | (exact absurd hb (by decide)) | simp [go_sem]) ?_
 simp only [Act.put, List.setIfInBounds_toArray, List.set_cons_succ, List.set_cons_zero, if_true, ↓reduceIte]
 have ce := blk_cell HX.out 2
 simp only [List.getElem?_toArray, List.getElem?_cons_succ, List.getElem?_cons_zero] at ce
 refine wpList_when (p7) (.int .i64 i2) (by cases p7 <;> rfl) (by intro hb; cases p7 <;> first | (exact absurd hb (by decide)) | simp [go_sem, ce]) ?_
 simp only [Act.put, List.setIfInBounds_toArray, List.set_cons_succ, List.set_cons_zero, if_true, ↓reduceIte]
 clear ce
 refine wpList_when (p7) (.bool yS) (by cases p7 <;> rfl) (by intro hb; cases p7 <;> first | (exact absurd hb (by decide)) | simp [go_sem, hyS]) ?_
 simp only [Act.put, List.setIfInBounds_toArray, List.set_cons_succ, List.set_cons_zero, if_true, ↓reduceIte]
 refine wpList_when (p7) (.bool yS) (by cases p7 <;> rfl) (by intro hb; cases p7 <;> first | (exact absurd hb (by decide)) | simp [go_sem]) ?_
 simp only [Act.put, List.setIfInBounds_toArray, List.set_cons_succ, List.set_cons_zero, if_true, ↓reduceIte]
 refine wpList_when ((p7 && !yS)) (.pointer (some ⟨bx, 0, none⟩)) (by cases p7 <;> cases yS <;> rfl) (by intro hb; cases p7 <;> cases yS <;> first | (exact absurd hb (by decide)) | simp [go_sem]) ?_
 simp only [Act.put, List.setIfInBounds_toArray, List.set_cons_succ, List.set_cons_zero, if_true, ↓reduceIte]
 have ce := blk_cell HX.out 0
 simp only [List.getElem?_toArray, List.getElem?_cons_succ, List.getElem?_cons_zero] at ce
 refine wpList_when ((p7 && !yS)) (.int .i64 i0) (by cases p7 <;> cases yS <;> rfl) (by intro hb; cases p7 <;> cases yS <;> first | (exact absurd hb (by decide)) | simp [go_sem, ce]) ?_
 simp only [Act.put, List.setIfInBounds_toArray, List.set_cons_succ, List.set_cons_zero, if_true, ↓reduceIte]
 clear ce
 refine wpList_whenCall ((p7 && !yS)) (.bool nS) 209 #[.int .i64 i0, .int .u8 83] (by cases p7 <;> cases yS <;> rfl) (by intro hb; cases p7 <;> cases yS <;> first | (exact absurd hb (by decide)) | simp [go_sem]) (by have := names_any i0 83 w9; rw [HnS.out] at this; exact this) ?_
 intro w10 hb'
 replace HX := Lib.hid ((hb'.block _ (blk_lt HX.out)).trans HX.out)
 replace HB := Lib.hid (HB.out.trans (hb'.mono HB.out.size))
 clear hb'
 simp only [Act.put, List.setIfInBounds_toArray, List.set_cons_succ, List.set_cons_zero, if_true, ↓reduceIte]
 obtain ⟨p8, hp8⟩ : ∃ b, b = (yS || nS) := ⟨_, rfl⟩
 refine wpList_when (p7) (.bool p8) (by cases p7 <;> rfl) (by intro hb; subst hp8; cases nS <;> cases p7 <;> cases yS <;> first | (exact absurd hb (by decide)) | simp [go_sem]) ?_
 simp only [Act.put, List.setIfInBounds_toArray, List.set_cons_succ, List.set_cons_zero, if_true, ↓reduceIte]
 have Hp8 := Lib.hid hp8
 clear hp8
 obtain ⟨p9, hp9⟩ : ∃ b, b = (p7 && p8) := ⟨_, rfl⟩
 refine wpList_when (true) (.bool p9) (by rfl) (by intro _; subst hp9; cases p7 <;> cases p8 <;> simp [go_sem]) ?_
 simp only [Act.put, List.setIfInBounds_toArray, List.set_cons_succ, List.set_cons_zero, if_true, ↓reduceIte]
 have Hp9 := Lib.hid hp9
 clear hp9
 refine wpList_when (true) (.bool p9) (by rfl) (by intro _; simp [go_sem]) ?_
 simp only [Act.put, List.setIfInBounds_toArray, List.set_cons_succ, List.set_cons_zero, if_true, ↓reduceIte]
 refine wpList_when (p9) (.pointer (some ⟨bx, 3, none⟩)) (by cases p9 <;> rfl) (by intro hb; cases p9 <;> first | (exact absurd hb (by decide)) | simp [go_sem]) ?_
 simp only [Act.put, List.setIfInBounds_toArray, List.set_cons_succ, List.set_cons_zero, if_true, ↓reduceIte]
 have ce := blk_cell HX.out 3
 simp only [List.getElem?_toArray, List.getElem?_cons_succ, List.getElem?_cons_zero] at ce
 refine wpList_when (p9) (.int .i64 i3) (by cases p9 <;> rfl) (by intro hb; cases p9 <;> first | (exact absurd hb (by decide)) | simp [go_sem, ce]) ?_
 simp only [Act.put, List.setIfInBounds_toArray, List.set_cons_succ, List.set_cons_zero, if_true, ↓reduceIte]
 clear ce
 refine wpList_when (p9) (.bool yT) (by cases p9 <;> rfl) (by intro hb; cases p9 <;> first | (exact absurd hb (by decide)) | simp [go_sem, hyT]) ?_
 simp only [Act.put, List.setIfInBounds_toArray, List.set_cons_succ, List.set_cons_zero, if_true, ↓reduceIte]
 refine wpList_when (p9) (.bool yT) (by cases p9 <;> rfl) (by intro hb; cases p9 <;> first | (exact absurd hb (by decide)) | simp [go_sem]) ?_
 simp only [Act.put, List.setIfInBounds_toArray, List.set_cons_succ, List.set_cons_zero, if_true, ↓reduceIte]
 refine wpList_when ((p9 && !yT)) (.pointer (some ⟨bx, 0, none⟩)) (by cases p9 <;> cases yT <;> rfl) (by intro hb; cases p9 <;> cases yT <;> first | (exact absurd hb (by decide)) | simp [go_sem]) ?_
 simp only [Act.put, List.setIfInBounds_toArray, List.set_cons_succ, List.set_cons_zero, if_true, ↓reduceIte]
 have ce := blk_cell HX.out 0
 simp only [List.getElem?_toArray, List.getElem?_cons_succ, List.getElem?_cons_zero] at ce
 refine wpList_when ((p9 && !yT)) (.int .i64 i0) (by cases p9 <;> cases yT <;> rfl) (by intro hb; cases p9 <;> cases yT <;> first | (exact absurd hb (by decide)) | simp [go_sem, ce]) ?_
 simp only [Act.put, List.setIfInBounds_toArray, List.set_cons_succ, List.set_cons_zero, if_true, ↓reduceIte]
 clear ce
 refine wpList_whenCall ((p9 && !yT)) (.bool nT) 209 #[.int .i64 i0, .int .u8 84] (by cases p9 <;> cases yT <;> rfl) (by intro hb; cases p9 <;> cases yT <;> first | (exact absurd hb (by decide)) | simp [go_sem]) (by have := names_any i0 84 w10; rw [HnT.out] at this; exact this) ?_
 intro w11 hb'
 replace HX := Lib.hid ((hb'.block _ (blk_lt HX.out)).trans HX.out)
 replace HB := Lib.hid (HB.out.trans (hb'.mono HB.out.size))
 clear hb'
 simp only [Act.put, List.setIfInBounds_toArray, List.set_cons_succ, List.set_cons_zero, if_true, ↓reduceIte]
 obtain ⟨p10, hp10⟩ : ∃ b, b = (yT || nT) := ⟨_, rfl⟩
 refine wpList_when (p9) (.bool p10) (by cases p9 <;> rfl) (by intro hb; subst hp10; cases nT <;> cases p9 <;> cases yT <;> first | (exact absurd hb (by decide)) | simp [go_sem]) ?_
 simp only [Act.put, List.setIfInBounds_toArray, List.set_cons_succ, List.set_cons_zero, if_true, ↓reduceIte]
 have Hp10 := Lib.hid hp10
 clear hp10
 obtain ⟨p11, hp11⟩ : ∃ b, b = (p9 && p10) := ⟨_, rfl⟩
 refine wpList_when (true) (.bool p11) (by rfl) (by intro _; subst hp11; cases p10 <;> cases p9 <;> simp [go_sem]) ?_
 simp only [Act.put, List.setIfInBounds_toArray, List.set_cons_succ, List.set_cons_zero, if_true, ↓reduceIte]
 have Hp11 := Lib.hid hp11
 clear hp11
 refine wpList_when (true) (.bool p11) (by rfl) (by intro _; simp [go_sem]) ?_
 simp only [Act.put, List.setIfInBounds_toArray, List.set_cons_succ, List.set_cons_zero, if_true, ↓reduceIte]
 refine wpList_when (p11) (.pointer (some ⟨bx, 4, none⟩)) (by cases p11 <;> rfl) (by intro hb; cases p11 <;> first | (exact absurd hb (by decide)) | simp [go_sem]) ?_
 simp only [Act.put, List.setIfInBounds_toArray, List.set_cons_succ, List.set_cons_zero, if_true, ↓reduceIte]
 have ce := blk_cell HX.out 4
 simp only [List.getElem?_toArray, List.getElem?_cons_succ, List.getElem?_cons_zero] at ce
 refine wpList_when (p11) (.int .i64 i4) (by cases p11 <;> rfl) (by intro hb; cases p11 <;> first | (exact absurd hb (by decide)) | simp [go_sem, ce]) ?_
 simp only [Act.put, List.setIfInBounds_toArray, List.set_cons_succ, List.set_cons_zero, if_true, ↓reduceIte]
 clear ce
 refine wpList_when (p11) (.bool yN) (by cases p11 <;> rfl) (by intro hb; cases p11 <;> first | (exact absurd hb (by decide)) | simp [go_sem, hyN]) ?_
 simp only [Act.put, List.setIfInBounds_toArray, List.set_cons_succ, List.set_cons_zero, if_true, ↓reduceIte]
 refine wpList_when (p11) (.bool yN) (by cases p11 <;> rfl) (by intro hb; cases p11 <;> first | (exact absurd hb (by decide)) | simp [go_sem]) ?_
 simp only [Act.put, List.setIfInBounds_toArray, List.set_cons_succ, List.set_cons_zero, if_true, ↓reduceIte]
 refine wpList_when ((p11 && !yN)) (.bool p5) (by cases p11 <;> cases yN <;> rfl) (by intro hb; cases p11 <;> cases yN <;> first | (exact absurd hb (by decide)) | simp [go_sem]) ?_
 simp only [Act.put, List.setIfInBounds_toArray, List.set_cons_succ, List.set_cons_zero, if_true, ↓reduceIte]
 obtain ⟨p12, hp12⟩ : ∃ b, b = (yN || p5) := ⟨_, rfl⟩
 refine wpList_when (p11) (.bool p12) (by cases p11 <;> rfl) (by intro hb; subst hp12; cases p11 <;> cases p5 <;> cases yN <;> first | (exact absurd hb (by decide)) | simp [go_sem]) ?_
 simp only [Act.put, List.setIfInBounds_toArray, List.set_cons_succ, List.set_cons_zero, if_true, ↓reduceIte]
 have Hp12 := Lib.hid hp12
 clear hp12
 obtain ⟨p13, hp13⟩ : ∃ b, b = (p11 && p12) := ⟨_, rfl⟩
 refine wpList_when (true) (.bool p13) (by rfl) (by intro _; subst hp13; cases p11 <;> cases p12 <;> simp [go_sem]) ?_
 simp only [Act.put, List.setIfInBounds_toArray, List.set_cons_succ, List.set_cons_zero, if_true, ↓reduceIte]
 have Hp13 := Lib.hid hp13
 clear hp13
 refine wpList_when (true) (.bool p13) (by rfl) (by intro _; simp [go_sem]) ?_
 simp only [Act.put, List.setIfInBounds_toArray, List.set_cons_succ, List.set_cons_zero, if_true, ↓reduceIte]
 refine wpList_when (p13) (.pointer (some ⟨bx, 5, none⟩)) (by cases p13 <;> rfl) (by intro hb; cases p13 <;> first | (exact absurd hb (by decide)) | simp [go_sem]) ?_
 simp only [Act.put, List.setIfInBounds_toArray, List.set_cons_succ, List.set_cons_zero, if_true, ↓reduceIte]
 have ce := blk_cell HX.out 5
 simp only [List.getElem?_toArray, List.getElem?_cons_succ, List.getElem?_cons_zero] at ce
 refine wpList_when (p13) (.slice A5 n5 c5) (by cases p13 <;> rfl) (by intro hb; cases p13 <;> first | (exact absurd hb (by decide)) | simp [go_sem, ce]) ?_
 simp only [Act.put, List.setIfInBounds_toArray, List.set_cons_succ, List.set_cons_zero, if_true, ↓reduceIte]
 clear ce
 refine wpList_when (p13) (.int .i64 (n5 : Int)) (by cases p13 <;> rfl) (by intro hb; cases p13 <;> first | (exact absurd hb (by decide)) | simp [go_sem]) ?_
 simp only [Act.put, List.setIfInBounds_toArray, List.set_cons_succ, List.set_cons_zero, if_true, ↓reduceIte]
 refine wpList_when (p13) (.bool yA) (by cases p13 <;> rfl) (by intro hb; cases p13 <;> first | (exact absurd hb (by decide)) | simp [go_sem, hyA]) ?_
 simp only [Act.put, List.setIfInBounds_toArray, List.set_cons_succ, List.set_cons_zero, if_true, ↓reduceIte]
 refine wpList_when (p13) (.bool yA) (by cases p13 <;> rfl) (by intro hb; cases p13 <;> first | (exact absurd hb (by decide)) | simp [go_sem]) ?_
 simp only [Act.put, List.setIfInBounds_toArray, List.set_cons_succ, List.set_cons_zero, if_true, ↓reduceIte]
 refine wpList_when ((p13 && !yA)) (.bool p6) (by cases p13 <;> cases yA <;> rfl) (by intro hb; cases p13 <;> cases yA <;> first | (exact absurd hb (by decide)) | simp [go_sem]) ?_
 simp only [Act.put, List.setIfInBounds_toArray, List.set_cons_succ, List.set_cons_zero, if_true, ↓reduceIte]
 obtain ⟨p14, hp14⟩ : ∃ b, b = (yA || p6) := ⟨_, rfl⟩
 refine wpList_when (p13) (.bool p14) (by cases p13 <;> rfl) (by intro hb; subst hp14; cases p13 <;> cases p6 <;> cases yA <;> first | (exact absurd hb (by decide)) | simp [go_sem]) ?_
 simp only [Act.put, List.setIfInBounds_toArray, List.set_cons_succ, List.set_cons_zero, if_true, ↓reduceIte]
 have Hp14 := Lib.hid hp14
 clear hp14
 obtain ⟨p15, hp15⟩ : ∃ b, b = (p13 && p14) := ⟨_, rfl⟩
 refine wpList_when (true) (.bool p15) (by rfl) (by intro _; subst hp15; cases p13 <;> cases p14 <;> simp [go_sem]) ?_
 simp only [Act.put, List.setIfInBounds_toArray, List.set_cons_succ, List.set_cons_zero, if_true, ↓reduceIte]
 have Hp15 := Lib.hid hp15
 clear hp15
 refine wpList_when (true) (.bool p15) (by rfl) (by intro _; simp [go_sem]) ?_
 simp only [Act.put, List.setIfInBounds_toArray, List.set_cons_succ, List.set_cons_zero, if_true, ↓reduceIte]
 refine wpList_when (p15) (.pointer (some ⟨bx, 6, none⟩)) (by cases p15 <;> rfl) (by intro hb; cases p15 <;> first | (exact absurd hb (by decide)) | simp [go_sem]) ?_
 simp only [Act.put, List.setIfInBounds_toArray, List.set_cons_succ, List.set_cons_zero, if_true, ↓reduceIte]
 have ce := blk_cell HX.out 6
 simp only [List.getElem?_toArray, List.getElem?_cons_succ, List.getElem?_cons_zero] at ce
 refine wpList_when (p15) (.slice A6 n6 c6) (by cases p15 <;> rfl) (by intro hb; cases p15 <;> first | (exact absurd hb (by decide)) | simp [go_sem, ce]) ?_
 simp only [Act.put, List.setIfInBounds_toArray, List.set_cons_succ, List.set_cons_zero, if_true, ↓reduceIte]
 clear ce
 refine wpList_when (p15) (.int .i64 (n6 : Int)) (by cases p15 <;> rfl) (by intro hb; cases p15 <;> first | (exact absurd hb (by decide)) | simp [go_sem]) ?_
 simp only [Act.put, List.setIfInBounds_toArray, List.set_cons_succ, List.set_cons_zero, if_true, ↓reduceIte]
 refine wpList_when (p15) (.bool yB) (by cases p15 <;> rfl) (by intro hb; cases p15 <;> first | (exact absurd hb (by decide)) | simp [go_sem, hyB]) ?_
 simp only [Act.put, List.setIfInBounds_toArray, List.set_cons_succ, List.set_cons_zero, if_true, ↓reduceIte]
 refine wpList_when (p15) (.bool yB) (by cases p15 <;> rfl) (by intro hb; cases p15 <;> first | (exact absurd hb (by decide)) | simp [go_sem]) ?_
 simp only [Act.put, List.setIfInBounds_toArray, List.set_cons_succ, List.set_cons_zero, if_true, ↓reduceIte]
 refine wpList_when ((p15 && !yB)) (.pointer (some ⟨bx, 0, none⟩)) (by cases p15 <;> cases yB <;> rfl) (by intro hb; cases p15 <;> cases yB <;> first | (exact absurd hb (by decide)) | simp [go_sem]) ?_
 simp only [Act.put, List.setIfInBounds_toArray, List.set_cons_succ, List.set_cons_zero, if_true, ↓reduceIte]
 have ce := blk_cell HX.out 0
 simp only [List.getElem?_toArray, List.getElem?_cons_succ, List.getElem?_cons_zero] at ce
 refine wpList_when ((p15 && !yB)) (.int .i64 i0) (by cases p15 <;> cases yB <;> rfl) (by intro hb; cases p15 <;> cases yB <;> first | (exact absurd hb (by decide)) | simp [go_sem, ce]) ?_
 simp only [Act.put, List.setIfInBounds_toArray, List.set_cons_succ, List.set_cons_zero, if_true, ↓reduceIte]
 clear ce
 refine wpList_whenCall ((p15 && !yB)) (.bool nB) 209 #[.int .i64 i0, .int .u8 66] (by cases p15 <;> cases yB <;> rfl) (by intro hb; cases p15 <;> cases yB <;> first | (exact absurd hb (by decide)) | simp [go_sem]) (by have := names_any i0 66 w11; rw [HnB.out] at this; exact this) ?_
 intro w12 hb'
 replace HX := Lib.hid ((hb'.block _ (blk_lt HX.out)).trans HX.out)
 replace HB := Lib.hid (HB.out.trans (hb'.mono HB.out.size))
 clear hb'
 simp only [Act.put, List.setIfInBounds_toArray, List.set_cons_succ, List.set_cons_zero, if_true, ↓reduceIte]
 obtain ⟨p16, hp16⟩ : ∃ b, b = (yB || nB) := ⟨_, rfl⟩
 refine wpList_when (p15) (.bool p16) (by cases p15 <;> rfl) (by intro hb; subst hp16; cases nB <;> cases p15 <;> cases yB <;> first | (exact absurd hb (by decide)) | simp [go_sem]) ?_
 simp only [Act.put, List.setIfInBounds_toArray, List.set_cons_succ, List.set_cons_zero, if_true, ↓reduceIte]
 have Hp16 := Lib.hid hp16
 clear hp16
 obtain ⟨p17, hp17⟩ : ∃ b, b = (p15 && p16) := ⟨_, rfl⟩
 refine wpList_when (true) (.bool p17) (by rfl) (by intro _; subst hp17; cases p15 <;> cases p16 <;> simp [go_sem]) ?_
 simp only [Act.put, List.setIfInBounds_toArray, List.set_cons_succ, List.set_cons_zero, if_true, ↓reduceIte]
 have Hp17 := Lib.hid hp17
 clear hp17
 refine wpList_when (true) (.bool p17) (by rfl) (by intro _; simp [go_sem]) ?_
 simp only [Act.put, List.setIfInBounds_toArray, List.set_cons_succ, List.set_cons_zero, if_true, ↓reduceIte]
 go_step
 go_step
 go_step
 go_step
 go_ret
 refine ⟨?_, HB.out⟩
 show Ending.returned (.bool p17) = _
 rw [Hp17.out, Hp16.out, Hp15.out, Hp14.out, Hp13.out, Hp12.out, Hp11.out, Hp10.out, Hp9.out, Hp8.out, Hp7.out, Hp6.out, Hp5.out, Hp4.out, Hp3.out, Hp2.out, Hp1.out, HPL.out]
end Go.Proofs.YtcbcacbbnojdjaaGreatDoor
