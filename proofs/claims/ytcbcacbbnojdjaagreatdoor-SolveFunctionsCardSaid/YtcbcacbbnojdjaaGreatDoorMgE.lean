/-
 Part E of what the law's proof needs: walks of the program's functions and the plain laws of what they tell. No condition.
-/
import Derived.Test.YtcbcacbbnojdjaaGreatDoorMgD
namespace Go.Proofs.YtcbcacbbnojdjaaGreatDoor
open Go.RowKit Go.Proofs.YtcbcacbbnojdjaaGreatDoorW.PrintWords Go.Proofs.YtcbcacbbnojdjaaGreatDoor.PSolveFunctions
set_option linter.unusedVariables false
set_option linter.unusedSimpArgs false
def PartIs (w : World) (p : Part) (v : Value) : Prop :=
 ∃ fa ca fp cp ft ct, v = .agg #[.int .i64 p.mask, .func fa #[] ca, .func fp #[] cp, .func ft #[] ct] ∧ IsAsk w p (.func fa #[] ca)
theorem alloc_new (w : World) (o : Obj) : (w.alloc o).heap[w.heap.size]? = some o := by
 show (w.heap.push o)[w.heap.size]? = _
 simp
theorem alloc_new4 (w : World) (a b c d : Obj) : ((((w.alloc a).alloc b).alloc c).alloc d).heap[w.heap.size + 1 + 1 + 1]? = some d := by
 have := alloc_new (((w.alloc a).alloc b).alloc c) d
 simpa using this
theorem put4 {w : World} {g : Nat} {a b c d : Value} {t : TypeId} (h : w.heap[g]? = some (.cells #[a, b, c, d] t (0, 0))) (a' b' c' d' : Value) : ((((w.setCell ⟨g, 0, none⟩ a').setCell ⟨g, 1, none⟩ b').setCell ⟨g, 2, none⟩ c').setCell ⟨g, 3, none⟩ d').heap[g]? = some (.cells #[a', b', c', d'] t (0, 0)) :=
 blk_put (blk_put (blk_put (blk_put h 0 a' rfl) 1 b' rfl) 2 c' rfl) 3 d' rfl
theorem put4_below {w w1 : World} {B g : Nat} (h : Below B w w1) (hg : B ≤ g) (a' b' c' d' : Value) : Below B w ((((w1.setCell ⟨g, 0, none⟩ a').setCell ⟨g, 1, none⟩ b').setCell ⟨g, 2, none⟩ c').setCell ⟨g, 3, none⟩ d') :=
 (((h.setCell (p := ⟨g, 0, none⟩) hg a').setCell (p := ⟨g, 1, none⟩) hg b').setCell (p := ⟨g, 2, none⟩) hg c').setCell (p := ⟨g, 3, none⟩) hg d'
theorem put4_cell {w : World} {g : Nat} (a' b' c' d' : Value) {p : Addr} {v : Value} (hp : p.block ≠ g) (h : w.cell? p = some v) : ((((w.setCell ⟨g, 0, none⟩ a').setCell ⟨g, 1, none⟩ b').setCell ⟨g, 2, none⟩ c').setCell ⟨g, 3, none⟩ d').cell? p = some v := by
 rw [cell_far (p := ⟨g, 3, none⟩) hp, cell_far (p := ⟨g, 2, none⟩) hp, cell_far (p := ⟨g, 1, none⟩) hp, cell_far (p := ⟨g, 0, none⟩) hp]
 exact h
theorem below1 (w : World) (a : Obj) : Below w.heap.size w (w.alloc a) := (Below.refl _ _).alloc (Nat.le_refl _) _
theorem below3 (w : World) (a b c : Obj) : Below w.heap.size w (((w.alloc a).alloc b).alloc c) := (((Below.refl _ _).alloc (Nat.le_refl _) _).alloc (by simp) _).alloc (by simp; omega) _
theorem below4 (w : World) (a b c d : Obj) : Below w.heap.size w ((((w.alloc a).alloc b).alloc c).alloc d) := ((((Below.refl _ _).alloc (Nat.le_refl _) _).alloc (by simp) _).alloc (by simp; omega) _).alloc (by simp; omega) _
theorem makeR (w : World) : Calls Tryz.prog 170 #[.int .i64 1, .func (.func 171) #[] #[]] w fun e w' => ∃ v, e = .returned v ∧ PartIs w' .R v ∧ Below w.heap.size w w' := by
 have hmf : ∀ (fn : Fn) (first cap : Array Value) (w : World), (Instr.makeFunc fn first cap).run Tryz.prog w = .ok (.func fn first cap) w := fun _ _ _ _ => rfl
 go_enter Tryz.func170, Tryz.ntmps170
 go_wp2_with fail
 simp [bodyPost, results, Tryz.results170, go_sem]
 exact ⟨⟨_, _, _, _, _, _, rfl, _, rfl, by simp [go_sem]⟩, below3 _ _ _ _⟩
theorem makeS (w : World) : Calls Tryz.prog 170 #[.int .i64 2, .func (.func 172) #[] #[]] w fun e w' => ∃ v, e = .returned v ∧ PartIs w' .S v ∧ Below w.heap.size w w' := by
 have hmf : ∀ (fn : Fn) (first cap : Array Value) (w : World), (Instr.makeFunc fn first cap).run Tryz.prog w = .ok (.func fn first cap) w := fun _ _ _ _ => rfl
 go_enter Tryz.func170, Tryz.ntmps170
 go_wp2_with fail
 simp [bodyPost, results, Tryz.results170, go_sem]
 exact ⟨⟨_, _, _, _, _, _, rfl, _, rfl, by simp [go_sem]⟩, below3 _ _ _ _⟩
theorem makeT (w : World) : Calls Tryz.prog 170 #[.int .i64 4, .func (.func 173) #[] #[]] w fun e w' => ∃ v, e = .returned v ∧ PartIs w' .T v ∧ Below w.heap.size w w' := by
 have hmf : ∀ (fn : Fn) (first cap : Array Value) (w : World), (Instr.makeFunc fn first cap).run Tryz.prog w = .ok (.func fn first cap) w := fun _ _ _ _ => rfl
 go_enter Tryz.func170, Tryz.ntmps170
 go_wp2_with fail
 simp [bodyPost, results, Tryz.results170, go_sem]
 exact ⟨⟨_, _, _, _, _, _, rfl, _, rfl, by simp [go_sem]⟩, below3 _ _ _ _⟩
theorem makei (w : World) : Calls Tryz.prog 174 #[.func (.func 175) #[] #[]] w fun e w' => ∃ v, e = .returned v ∧ PartIs w' .i v ∧ Below w.heap.size w w' := by
 have hmf : ∀ (fn : Fn) (first cap : Array Value) (w : World), (Instr.makeFunc fn first cap).run Tryz.prog w = .ok (.func fn first cap) w := fun _ _ _ _ => rfl
 go_enter Tryz.func174, Tryz.ntmps174
 go_wp2_with fail
 simp [bodyPost, results, Tryz.results174, go_sem]
 exact ⟨⟨_, _, _, _, _, _, rfl, rfl⟩, ((below1 _ _).alloc (by simp) _)⟩
theorem number_any (f : Fn) (cap : Array Value) (w : World) : Calls Tryz.prog 174 #[.func f #[] cap] w fun e w' => (∃ fp cp ft ct, e = .returned (.agg #[.int .i64 8, .func f #[] cap, .func fp #[] cp, .func ft #[] ct])) ∧ Below w.heap.size w w' := by
 have hmf : ∀ (fn : Fn) (first cap : Array Value) (w : World), (Instr.makeFunc fn first cap).run Tryz.prog w = .ok (.func fn first cap) w := fun _ _ _ _ => rfl
 go_enter Tryz.func174, Tryz.ntmps174
 go_wp2_with fail
 simp [bodyPost, results, Tryz.results174, go_sem]
 exact ((below1 _ _).alloc (by simp) _)
theorem size_part : (Tryz.prog.info? 208).map (·.size) = some 4 := by kernel_rfl
theorem makec (w : World) : Calls Tryz.prog 176 #[.int .i64 1, .int .i64 17, .func (.func 177) #[] #[]] w fun e w' => ∃ v, e = .returned v ∧ PartIs w' .c v ∧ Below w.heap.size w w' := by
 have hmf : ∀ (fn : Fn) (first cap : Array Value) (w : World), (Instr.makeFunc fn first cap).run Tryz.prog w = .ok (.func fn first cap) w := fun _ _ _ _ => rfl
 go_enter Tryz.func176, Tryz.ntmps176
 go_wp2_with fail
 refine (number_any _ _ _).mono ?_
 rintro e w1 ⟨⟨fp, cp, ft, ct, rfl⟩, hb⟩
 have k0 := below_cells hb ⟨w.heap.size, 0, none⟩ (.int .i64 1) (by simp [go_sem])
 have k1 := below_cells hb ⟨w.heap.size + 1, 0, none⟩ (.int .i64 17) (by simp [go_sem])
 have k2 := below_cells hb ⟨w.heap.size + 1 + 1, 0, none⟩ (.func (.func 177) #[] #[]) (by simp [go_sem])
 have hg : w1.heap[w.heap.size + 1 + 1 + 1]? = some (.cells #[.int .i64 0, .nilFunc, .nilFunc, .nilFunc] 208 (0, 0)) := (hb.block _ (by simp)).trans (alloc_new4 _ _ _ _ _)
 have g0 := blk_cell hg 0
 have g1 := blk_cell hg 1
 have g2 := blk_cell hg 2
 have g3 := blk_cell hg 3
 have z0 := blk_frozen hg 0
 have z1 := blk_frozen hg 1
 have z2 := blk_frozen hg 2
 have z3 := blk_frozen hg 3
 simp only [List.getElem?_toArray, List.getElem?_cons_succ, List.getElem?_cons_zero] at g0 g1 g2 g3
 have hs : w.heap.size + 1 + 1 + 1 < w1.heap.size := blk_lt hg
 go_wp2_with fail
 refine bodyPost_ret (results_single rfl (Vals.cell _ 208 _ (0, 0) _ rfl (put4 hg _ _ _ _) Tryz.underlying208 rfl size_part Vals.nil)) rfl ?_
 exact ⟨_, rfl, ⟨_, _, _, _, _, _, rfl, _, _, _, rfl, put4_cell _ _ _ _ (by show w.heap.size ≠ _; omega) k0, put4_cell _ _ _ _ (by show w.heap.size + 1 + 1 ≠ _; omega) k2, put4_cell _ _ _ _ (by show w.heap.size + 1 ≠ _; omega) k1⟩, put4_below ((below4 _ _ _ _ _).trans (hb.mono (by simp; omega))) (by omega) _ _ _ _⟩
theorem makef (w : World) : Calls Tryz.prog 176 #[.int .i64 0, .int .i64 17, .func (.func 178) #[] #[]] w fun e w' => ∃ v, e = .returned v ∧ PartIs w' .f v ∧ Below w.heap.size w w' := by
 have hmf : ∀ (fn : Fn) (first cap : Array Value) (w : World), (Instr.makeFunc fn first cap).run Tryz.prog w = .ok (.func fn first cap) w := fun _ _ _ _ => rfl
 go_enter Tryz.func176, Tryz.ntmps176
 go_wp2_with fail
 refine (number_any _ _ _).mono ?_
 rintro e w1 ⟨⟨fp, cp, ft, ct, rfl⟩, hb⟩
 have k0 := below_cells hb ⟨w.heap.size, 0, none⟩ (.int .i64 0) (by simp [go_sem])
 have k1 := below_cells hb ⟨w.heap.size + 1, 0, none⟩ (.int .i64 17) (by simp [go_sem])
 have k2 := below_cells hb ⟨w.heap.size + 1 + 1, 0, none⟩ (.func (.func 178) #[] #[]) (by simp [go_sem])
 have hg : w1.heap[w.heap.size + 1 + 1 + 1]? = some (.cells #[.int .i64 0, .nilFunc, .nilFunc, .nilFunc] 208 (0, 0)) := (hb.block _ (by simp)).trans (alloc_new4 _ _ _ _ _)
 have g0 := blk_cell hg 0
 have g1 := blk_cell hg 1
 have g2 := blk_cell hg 2
 have g3 := blk_cell hg 3
 have z0 := blk_frozen hg 0
 have z1 := blk_frozen hg 1
 have z2 := blk_frozen hg 2
 have z3 := blk_frozen hg 3
 simp only [List.getElem?_toArray, List.getElem?_cons_succ, List.getElem?_cons_zero] at g0 g1 g2 g3
 have hs : w.heap.size + 1 + 1 + 1 < w1.heap.size := blk_lt hg
 go_wp2_with fail
 refine bodyPost_ret (results_single rfl (Vals.cell _ 208 _ (0, 0) _ rfl (put4 hg _ _ _ _) Tryz.underlying208 rfl size_part Vals.nil)) rfl ?_
 exact ⟨_, rfl, ⟨_, _, _, _, _, _, rfl, _, _, _, rfl, put4_cell _ _ _ _ (by show w.heap.size ≠ _; omega) k0, put4_cell _ _ _ _ (by show w.heap.size + 1 + 1 ≠ _; omega) k2, put4_cell _ _ _ _ (by show w.heap.size + 1 ≠ _; omega) k1⟩, put4_below ((below4 _ _ _ _ _).trans (hb.mono (by simp; omega))) (by omega) _ _ _ _⟩
theorem makeg (w : World) : Calls Tryz.prog 176 #[.int .i64 0, .int .i64 18, .func (.func 179) #[] #[]] w fun e w' => ∃ v, e = .returned v ∧ PartIs w' .g v ∧ Below w.heap.size w w' := by
 have hmf : ∀ (fn : Fn) (first cap : Array Value) (w : World), (Instr.makeFunc fn first cap).run Tryz.prog w = .ok (.func fn first cap) w := fun _ _ _ _ => rfl
 go_enter Tryz.func176, Tryz.ntmps176
 go_wp2_with fail
 refine (number_any _ _ _).mono ?_
 rintro e w1 ⟨⟨fp, cp, ft, ct, rfl⟩, hb⟩
 have k0 := below_cells hb ⟨w.heap.size, 0, none⟩ (.int .i64 0) (by simp [go_sem])
 have k1 := below_cells hb ⟨w.heap.size + 1, 0, none⟩ (.int .i64 18) (by simp [go_sem])
 have k2 := below_cells hb ⟨w.heap.size + 1 + 1, 0, none⟩ (.func (.func 179) #[] #[]) (by simp [go_sem])
 have hg : w1.heap[w.heap.size + 1 + 1 + 1]? = some (.cells #[.int .i64 0, .nilFunc, .nilFunc, .nilFunc] 208 (0, 0)) := (hb.block _ (by simp)).trans (alloc_new4 _ _ _ _ _)
 have g0 := blk_cell hg 0
 have g1 := blk_cell hg 1
 have g2 := blk_cell hg 2
 have g3 := blk_cell hg 3
 have z0 := blk_frozen hg 0
 have z1 := blk_frozen hg 1
 have z2 := blk_frozen hg 2
 have z3 := blk_frozen hg 3
 simp only [List.getElem?_toArray, List.getElem?_cons_succ, List.getElem?_cons_zero] at g0 g1 g2 g3
 have hs : w.heap.size + 1 + 1 + 1 < w1.heap.size := blk_lt hg
 go_wp2_with fail
 refine bodyPost_ret (results_single rfl (Vals.cell _ 208 _ (0, 0) _ rfl (put4 hg _ _ _ _) Tryz.underlying208 rfl size_part Vals.nil)) rfl ?_
 exact ⟨_, rfl, ⟨_, _, _, _, _, _, rfl, _, _, _, rfl, put4_cell _ _ _ _ (by show w.heap.size ≠ _; omega) k0, put4_cell _ _ _ _ (by show w.heap.size + 1 + 1 ≠ _; omega) k2, put4_cell _ _ _ _ (by show w.heap.size + 1 ≠ _; omega) k1⟩, put4_below ((below4 _ _ _ _ _).trans (hb.mono (by simp; omega))) (by omega) _ _ _ _⟩
theorem makeF (w : World) : Calls Tryz.prog 176 #[.int .i64 0, .int .i64 14, .func (.func 180) #[] #[]] w fun e w' => ∃ v, e = .returned v ∧ PartIs w' .F v ∧ Below w.heap.size w w' := by
 have hmf : ∀ (fn : Fn) (first cap : Array Value) (w : World), (Instr.makeFunc fn first cap).run Tryz.prog w = .ok (.func fn first cap) w := fun _ _ _ _ => rfl
 go_enter Tryz.func176, Tryz.ntmps176
 go_wp2_with fail
 refine (number_any _ _ _).mono ?_
 rintro e w1 ⟨⟨fp, cp, ft, ct, rfl⟩, hb⟩
 have k0 := below_cells hb ⟨w.heap.size, 0, none⟩ (.int .i64 0) (by simp [go_sem])
 have k1 := below_cells hb ⟨w.heap.size + 1, 0, none⟩ (.int .i64 14) (by simp [go_sem])
 have k2 := below_cells hb ⟨w.heap.size + 1 + 1, 0, none⟩ (.func (.func 180) #[] #[]) (by simp [go_sem])
 have hg : w1.heap[w.heap.size + 1 + 1 + 1]? = some (.cells #[.int .i64 0, .nilFunc, .nilFunc, .nilFunc] 208 (0, 0)) := (hb.block _ (by simp)).trans (alloc_new4 _ _ _ _ _)
 have g0 := blk_cell hg 0
 have g1 := blk_cell hg 1
 have g2 := blk_cell hg 2
 have g3 := blk_cell hg 3
 have z0 := blk_frozen hg 0
 have z1 := blk_frozen hg 1
 have z2 := blk_frozen hg 2
 have z3 := blk_frozen hg 3
 simp only [List.getElem?_toArray, List.getElem?_cons_succ, List.getElem?_cons_zero] at g0 g1 g2 g3
 have hs : w.heap.size + 1 + 1 + 1 < w1.heap.size := blk_lt hg
 go_wp2_with fail
 refine bodyPost_ret (results_single rfl (Vals.cell _ 208 _ (0, 0) _ rfl (put4 hg _ _ _ _) Tryz.underlying208 rfl size_part Vals.nil)) rfl ?_
 exact ⟨_, rfl, ⟨_, _, _, _, _, _, rfl, _, _, _, rfl, put4_cell _ _ _ _ (by show w.heap.size ≠ _; omega) k0, put4_cell _ _ _ _ (by show w.heap.size + 1 + 1 ≠ _; omega) k2, put4_cell _ _ _ _ (by show w.heap.size + 1 ≠ _; omega) k1⟩, put4_below ((below4 _ _ _ _ _).trans (hb.mono (by simp; omega))) (by omega) _ _ _ _⟩
theorem makeJ (w : World) : Calls Tryz.prog 176 #[.int .i64 0, .int .i64 16, .func (.func 181) #[] #[]] w fun e w' => ∃ v, e = .returned v ∧ PartIs w' .J v ∧ Below w.heap.size w w' := by
 have hmf : ∀ (fn : Fn) (first cap : Array Value) (w : World), (Instr.makeFunc fn first cap).run Tryz.prog w = .ok (.func fn first cap) w := fun _ _ _ _ => rfl
 go_enter Tryz.func176, Tryz.ntmps176
 go_wp2_with fail
 refine (number_any _ _ _).mono ?_
 rintro e w1 ⟨⟨fp, cp, ft, ct, rfl⟩, hb⟩
 have k0 := below_cells hb ⟨w.heap.size, 0, none⟩ (.int .i64 0) (by simp [go_sem])
 have k1 := below_cells hb ⟨w.heap.size + 1, 0, none⟩ (.int .i64 16) (by simp [go_sem])
 have k2 := below_cells hb ⟨w.heap.size + 1 + 1, 0, none⟩ (.func (.func 181) #[] #[]) (by simp [go_sem])
 have hg : w1.heap[w.heap.size + 1 + 1 + 1]? = some (.cells #[.int .i64 0, .nilFunc, .nilFunc, .nilFunc] 208 (0, 0)) := (hb.block _ (by simp)).trans (alloc_new4 _ _ _ _ _)
 have g0 := blk_cell hg 0
 have g1 := blk_cell hg 1
 have g2 := blk_cell hg 2
 have g3 := blk_cell hg 3
 have z0 := blk_frozen hg 0
 have z1 := blk_frozen hg 1
 have z2 := blk_frozen hg 2
 have z3 := blk_frozen hg 3
 simp only [List.getElem?_toArray, List.getElem?_cons_succ, List.getElem?_cons_zero] at g0 g1 g2 g3
 have hs : w.heap.size + 1 + 1 + 1 < w1.heap.size := blk_lt hg
 go_wp2_with fail
 refine bodyPost_ret (results_single rfl (Vals.cell _ 208 _ (0, 0) _ rfl (put4 hg _ _ _ _) Tryz.underlying208 rfl size_part Vals.nil)) rfl ?_
 exact ⟨_, rfl, ⟨_, _, _, _, _, _, rfl, _, _, _, rfl, put4_cell _ _ _ _ (by show w.heap.size ≠ _; omega) k0, put4_cell _ _ _ _ (by show w.heap.size + 1 + 1 ≠ _; omega) k2, put4_cell _ _ _ _ (by show w.heap.size + 1 ≠ _; omega) k1⟩, put4_below ((below4 _ _ _ _ _).trans (hb.mono (by simp; omega))) (by omega) _ _ _ _⟩
theorem makeA (w : World) : Calls Tryz.prog 182 #[.int .i64 16, .func (.func 183) #[] #[], .func (.func 184) #[] #[]] w fun e w' => ∃ v, e = .returned v ∧ PartIs w' .A v ∧ Below w.heap.size w w' := by
 have hmf : ∀ (fn : Fn) (first cap : Array Value) (w : World), (Instr.makeFunc fn first cap).run Tryz.prog w = .ok (.func fn first cap) w := fun _ _ _ _ => rfl
 go_enter Tryz.func182, Tryz.ntmps182
 go_wp2_with fail
 simp [bodyPost, results, Tryz.results182, go_sem]
 exact ⟨⟨_, _, _, _, _, _, rfl, _, _, rfl, by simp [go_sem], by simp [go_sem]⟩, below3 _ _ _ _⟩
theorem makeB (w : World) : Calls Tryz.prog 182 #[.int .i64 32, .func (.func 185) #[] #[], .func (.func 186) #[] #[]] w fun e w' => ∃ v, e = .returned v ∧ PartIs w' .B v ∧ Below w.heap.size w w' := by
 have hmf : ∀ (fn : Fn) (first cap : Array Value) (w : World), (Instr.makeFunc fn first cap).run Tryz.prog w = .ok (.func fn first cap) w := fun _ _ _ _ => rfl
 go_enter Tryz.func182, Tryz.ntmps182
 go_wp2_with fail
 simp [bodyPost, results, Tryz.results182, go_sem]
 exact ⟨⟨_, _, _, _, _, _, rfl, _, _, rfl, by simp [go_sem], by simp [go_sem]⟩, below3 _ _ _ _⟩
theorem makeV (w : World) : Calls Tryz.prog 182 #[.int .i64 16, .func (.func 183) #[] #[], .func (.func 187) #[] #[]] w fun e w' => ∃ v, e = .returned v ∧ PartIs w' .V v ∧ Below w.heap.size w w' := by
 have hmf : ∀ (fn : Fn) (first cap : Array Value) (w : World), (Instr.makeFunc fn first cap).run Tryz.prog w = .ok (.func fn first cap) w := fun _ _ _ _ => rfl
 go_enter Tryz.func182, Tryz.ntmps182
 go_wp2_with fail
 simp [bodyPost, results, Tryz.results182, go_sem]
 exact ⟨⟨_, _, _, _, _, _, rfl, _, _, rfl, by simp [go_sem], by simp [go_sem]⟩, below3 _ _ _ _⟩
end Go.Proofs.YtcbcacbbnojdjaaGreatDoor
