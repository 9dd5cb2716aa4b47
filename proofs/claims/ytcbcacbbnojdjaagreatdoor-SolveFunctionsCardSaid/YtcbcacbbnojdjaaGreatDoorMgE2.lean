/-
 Part E2 of what the law's proof needs: walks of the program's functions and the plain laws of what they tell. No condition.
-/
import Derived.Test.YtcbcacbbnojdjaaGreatDoorMgD
import Derived.RegionDies
namespace Go.Proofs.YtcbcacbbnojdjaaGreatDoor
open Go.RowKit Go.Proofs.YtcbcacbbnojdjaaGreatDoorW.PrintWords Go.Proofs.YtcbcacbbnojdjaaGreatDoor.PSolveFunctions
set_option linter.unusedVariables false
set_option linter.unusedSimpArgs false
set_option maxRecDepth 100000 in
set_option maxHeartbeats 3200000 in
theorem op_odd (a : Nat) (p : Addr) (last : Bool) (l : Int) (x : Ins) (A5 : Option Addr) (c5 : Nat) (A6 : Option Addr) (c6 : Nat) (w : World) (v0 v1 : Value) (tg tc : Nat) (hb : AskerAt w a v0 v1 (.slice (some ⟨tg, 0, none⟩) 18 tc) l) (hx : InsAt w p x A5 c5 A6 c6) (h1 : 1 ≤ x.f0) (h2 : x.f0 < 18)
  (hT : TableAt w tg) (hl : 0 ≤ l ∧ l < 1048576) (hpl : plainB (table.getD x.f0.toNat []) x = false) :
  Calls Tryz.prog 145 #[.pointer (some ⟨a, 0, none⟩), .pointer (some p), .bool last] w (locs w a v0 v1 (.slice (some ⟨tg, 0, none⟩) 18 tc) (opQ l x last)) := by
 have HQ := Lib.hid (show opQ l x last = .error 1 by rw [opQ, if_pos ⟨h1, h2⟩, if_neg (by rw [hpl]; decide)])
 have c2 := blk_cell hb 2
 have c3 := blk_cell hb 3
 have c4 := blk_cell hb 4
 have z3 := blk_frozen hb 3
 have e0 := hx.e0
 simp only [List.getElem?_toArray, List.getElem?_cons_succ, List.getElem?_cons_zero] at c2 c3 c4
 obtain ⟨i, hi⟩ : ∃ i : Int, x.f0 = i := ⟨_, rfl⟩
 obtain ⟨g, c, ht, hrow⟩ := hT.at_ x.f0.toNat (by omega) (by omega)
 have hn := table_short x.f0.toNat
 have hp := plain_any g (table.getD x.f0.toNat []) c p x A5 c5 A6 c6 w.drew.drew (hrow.of (fun _ _ h => h)) hn hx.e1 hx.e2 hx.e3 hx.e4 hx.e5 hx.e6
 generalize htn : (table.getD x.f0.toNat []).length = tn at ht hp
 rw [hpl] at hp
 have HP := Lib.hid hp
 rw [hi] at ht e0 h1 h2
 have h0 : (0 : Int) ≤ i := by omega
 have d1 : decide (1 ≤ i) = true := decide_eq_true h1
 have d2 : decide (i < 18) = true := decide_eq_true h2
 have HX := Lib.hid hx
 clear hp hi hrow hx hT hn htn
 go_enter Tryz.func145, Tryz.ntmps145
 go_wp2_with fail
 refine wp_region_still_tail 18 (by kernel_rfl) (by kernel_rfl) ?_
 change wpStill _ _ w.drew (fun a' => wpList _ _ _ _ a' w.drew) _ _
 simp only [List.take_succ_cons, List.take_zero, List.drop_succ_cons, List.drop_zero]
 repeat still_step
 refine wpStill_nil ?_
 go_wp2_with fail
 refine (must_yes a 12 w.drew c4).mono ?_
 rintro e w1 ⟨rfl, rfl⟩
 go_wp2_with fail
 go_region_dies
 all_goals (
  rename_i K hK
  refine HP.out.mono ?_
  rintro e w2 ⟨rfl, hbl⟩
  have HB := Lib.hid hbl
  clear hbl
  refine hK _ _ ?_
  clear hK K
  refine wpAny_ready (rs := [13]) (by kernel_rfl) (by simp) ?_
  refine AllReady.cons rfl (fun K hK => ?_) AllReady.nil
  go_simp
  refine (must_not a 1 w2 (below_cells HB.out _ _ c4)).mono ?_
  rintro e w3 ⟨rfl, rfl⟩
  exact ⟨rfl, (by rw [HQ.out]; rfl), (kept_two HB.out), fun m hm => (by rw [HQ.out] at hm; cases hm)⟩)
set_option maxRecDepth 100000 in
set_option maxHeartbeats 3200000 in
theorem op_mid (a : Nat) (p : Addr) (l : Int) (x : Ins) (A5 : Option Addr) (c5 : Nat) (A6 : Option Addr) (c6 : Nat) (w : World) (v0 v1 : Value) (tg tc : Nat) (hb : AskerAt w a v0 v1 (.slice (some ⟨tg, 0, none⟩) 18 tc) l) (hx : InsAt w p x A5 c5 A6 c6) (h1 : 1 ≤ x.f0) (h2 : x.f0 < 18)
  (hT : TableAt w tg) (hl : 0 ≤ l ∧ l < 1048576) (hpl : plainB (table.getD x.f0.toNat []) x = true) (h6 : x.f0 ≠ 6) :
  Calls Tryz.prog 145 #[.pointer (some ⟨a, 0, none⟩), .pointer (some p), .bool false] w (locs w a v0 v1 (.slice (some ⟨tg, 0, none⟩) 18 tc) (opQ l x false)) := by
 have HQ := Lib.hid (show opQ l x false = .ok l by rw [opQ, if_pos ⟨h1, h2⟩, if_pos hpl, if_pos (.inl rfl), if_neg h6])
 have c2 := blk_cell hb 2
 have c3 := blk_cell hb 3
 have c4 := blk_cell hb 4
 have z3 := blk_frozen hb 3
 have e0 := hx.e0
 simp only [List.getElem?_toArray, List.getElem?_cons_succ, List.getElem?_cons_zero] at c2 c3 c4
 obtain ⟨i, hi⟩ : ∃ i : Int, x.f0 = i := ⟨_, rfl⟩
 obtain ⟨g, c, ht, hrow⟩ := hT.at_ x.f0.toNat (by omega) (by omega)
 have hn := table_short x.f0.toNat
 have hp := plain_any g (table.getD x.f0.toNat []) c p x A5 c5 A6 c6 w.drew.drew (hrow.of (fun _ _ h => h)) hn hx.e1 hx.e2 hx.e3 hx.e4 hx.e5 hx.e6
 generalize htn : (table.getD x.f0.toNat []).length = tn at ht hp
 rw [hpl] at hp
 have HP := Lib.hid hp
 rw [hi] at ht e0 h1 h2 h6
 have h0 : (0 : Int) ≤ i := by omega
 have d1 : decide (1 ≤ i) = true := decide_eq_true h1
 have d2 : decide (i < 18) = true := decide_eq_true h2
 have HX := Lib.hid hx
 clear hp hi hrow hx hT hn htn
 have b6 : (i == 6) = false := by simp; omega
 clear h6
 go_enter Tryz.func145, Tryz.ntmps145
 go_wp2_with fail
 refine wp_region_still_tail 18 (by kernel_rfl) (by kernel_rfl) ?_
 change wpStill _ _ w.drew (fun a' => wpList _ _ _ _ a' w.drew) _ _
 simp only [List.take_succ_cons, List.take_zero, List.drop_succ_cons, List.drop_zero]
 repeat still_step
 refine wpStill_nil ?_
 go_wp2_with fail
 refine (must_yes a 12 w.drew c4).mono ?_
 rintro e w1 ⟨rfl, rfl⟩
 go_wp2_with fail
 go_region_dies
 all_goals (
  rename_i K hK
  refine HP.out.mono ?_
  rintro e w2 ⟨rfl, hbl⟩
  have HB := Lib.hid hbl
  clear hbl
  refine hK _ _ ?_
  clear hK K
  refine wpAny_ready (rs := [13]) (by kernel_rfl) (by simp) ?_
  refine AllReady.cons rfl (fun K hK => ?_) AllReady.nil
  go_simp
  refine (must_yes a 1 w2 (below_cells HB.out _ _ c4)).mono ?_
  rintro e w3 ⟨rfl, rfl⟩
  refine hK _ _ ?_
  clear hK K
  refine wpAny_done (by kernel_rfl) ?_ _
  have q0 := below_cells HB.out _ _ e0
  have q3 := below_cells HB.out _ _ c3
  have q4 := below_cells HB.out _ _ c4
  have hb2 : AskerAt w2 a v0 v1 (.slice (some ⟨tg, 0, none⟩) 18 tc) l := (HB.out.block a (blk_lt hb)).trans hb
  have y3 := blk_frozen hb2 3
  have HB2 := Lib.hid hb2
  clear hb2
  go_wp2_with fail
  refine (must_yes a 19 w2 q4).mono ?_
  rintro e w4 ⟨rfl, rfl⟩
  go_wp2_with fail
  go_end0
  exact ⟨(by rw [HQ.out]; rfl), (kept_two HB.out), fun m hm => (by rw [HQ.out] at hm; injection hm with hm; subst hm; exact HB2.out)⟩)
set_option maxRecDepth 100000 in
set_option maxHeartbeats 3200000 in
theorem op_new (a : Nat) (p : Addr) (l : Int) (x : Ins) (A5 : Option Addr) (c5 : Nat) (A6 : Option Addr) (c6 : Nat) (w : World) (v0 v1 : Value) (tg tc : Nat) (hb : AskerAt w a v0 v1 (.slice (some ⟨tg, 0, none⟩) 18 tc) l) (hx : InsAt w p x A5 c5 A6 c6) (h1 : 1 ≤ x.f0) (h2 : x.f0 < 18)
  (hT : TableAt w tg) (hl : 0 ≤ l ∧ l < 1048576) (hpl : plainB (table.getD x.f0.toNat []) x = true) (h6 : x.f0 = 6) (h7 : l + 1 < 1048576) :
  Calls Tryz.prog 145 #[.pointer (some ⟨a, 0, none⟩), .pointer (some p), .bool false] w (locs w a v0 v1 (.slice (some ⟨tg, 0, none⟩) 18 tc) (opQ l x false)) := by
 have HQ := Lib.hid (show opQ l x false = .ok (l + 1) by rw [opQ, if_pos ⟨h1, h2⟩, if_pos hpl, if_pos (.inl rfl), if_pos h6, if_pos h7])
 have c2 := blk_cell hb 2
 have c3 := blk_cell hb 3
 have c4 := blk_cell hb 4
 have z3 := blk_frozen hb 3
 have e0 := hx.e0
 simp only [List.getElem?_toArray, List.getElem?_cons_succ, List.getElem?_cons_zero] at c2 c3 c4
 obtain ⟨i, hi⟩ : ∃ i : Int, x.f0 = i := ⟨_, rfl⟩
 obtain ⟨g, c, ht, hrow⟩ := hT.at_ x.f0.toNat (by omega) (by omega)
 have hn := table_short x.f0.toNat
 have hp := plain_any g (table.getD x.f0.toNat []) c p x A5 c5 A6 c6 w.drew.drew (hrow.of (fun _ _ h => h)) hn hx.e1 hx.e2 hx.e3 hx.e4 hx.e5 hx.e6
 generalize htn : (table.getD x.f0.toNat []).length = tn at ht hp
 rw [hpl] at hp
 have HP := Lib.hid hp
 rw [hi] at ht e0 h1 h2 h6
 have h0 : (0 : Int) ≤ i := by omega
 have d1 : decide (1 ≤ i) = true := decide_eq_true h1
 have d2 : decide (i < 18) = true := decide_eq_true h2
 have HX := Lib.hid hx
 clear hp hi hrow hx hT hn htn
 have b6 : (i == 6) = true := by simp; omega
 have d7 : decide (l + 1 < 1048576) = true := decide_eq_true h7
 clear h6
 go_enter Tryz.func145, Tryz.ntmps145
 go_wp2_with fail
 refine wp_region_still_tail 18 (by kernel_rfl) (by kernel_rfl) ?_
 change wpStill _ _ w.drew (fun a' => wpList _ _ _ _ a' w.drew) _ _
 simp only [List.take_succ_cons, List.take_zero, List.drop_succ_cons, List.drop_zero]
 repeat still_step
 refine wpStill_nil ?_
 go_wp2_with fail
 refine (must_yes a 12 w.drew c4).mono ?_
 rintro e w1 ⟨rfl, rfl⟩
 go_wp2_with fail
 go_region_dies
 all_goals (
  rename_i K hK
  refine HP.out.mono ?_
  rintro e w2 ⟨rfl, hbl⟩
  have HB := Lib.hid hbl
  clear hbl
  refine hK _ _ ?_
  clear hK K
  refine wpAny_ready (rs := [13]) (by kernel_rfl) (by simp) ?_
  refine AllReady.cons rfl (fun K hK => ?_) AllReady.nil
  go_simp
  refine (must_yes a 1 w2 (below_cells HB.out _ _ c4)).mono ?_
  rintro e w3 ⟨rfl, rfl⟩
  refine hK _ _ ?_
  clear hK K
  refine wpAny_done (by kernel_rfl) ?_ _
  have q0 := below_cells HB.out _ _ e0
  have q3 := below_cells HB.out _ _ c3
  have q4 := below_cells HB.out _ _ c4
  have hb2 : AskerAt w2 a v0 v1 (.slice (some ⟨tg, 0, none⟩) 18 tc) l := (HB.out.block a (blk_lt hb)).trans hb
  have y3 := blk_frozen hb2 3
  have HB2 := Lib.hid hb2
  clear hb2
  go_wp2_with fail
  refine (must_yes a 19 w2 q4).mono ?_
  rintro e w4 ⟨rfl, rfl⟩
  have hw : IntKind.i64.wrap (l + 1) = l + 1 := (by rw [IntKind.wrap_i64]; omega)
  have hb3 := blk_put HB2.out 3 (.int .i64 (l + 1)) rfl
  have r4 := blk_cell hb3 4
  have r3 := blk_cell hb3 3
  simp only [List.getElem?_toArray, List.getElem?_cons_succ, List.getElem?_cons_zero, List.setIfInBounds_toArray, List.set_cons_succ, List.set_cons_zero] at r3 r4
  go_wp2_with fail
  refine (must_yes a 21 (w2.setCell ⟨a, 3, none⟩ (.int .i64 (l + 1))) r4).mono ?_
  rintro e w5 ⟨rfl, rfl⟩
  go_wp2_with fail
  go_end0
  exact ⟨(by rw [HQ.out]; rfl), ((kept_two HB.out)).trans (Kept.set _ _ _), fun m hm => (by rw [HQ.out] at hm; injection hm with hm; subst hm; exact hb3)⟩)
set_option maxRecDepth 100000 in
set_option maxHeartbeats 3200000 in
theorem op_large (a : Nat) (p : Addr) (l : Int) (x : Ins) (A5 : Option Addr) (c5 : Nat) (A6 : Option Addr) (c6 : Nat) (w : World) (v0 v1 : Value) (tg tc : Nat) (hb : AskerAt w a v0 v1 (.slice (some ⟨tg, 0, none⟩) 18 tc) l) (hx : InsAt w p x A5 c5 A6 c6) (h1 : 1 ≤ x.f0) (h2 : x.f0 < 18)
  (hT : TableAt w tg) (hl : 0 ≤ l ∧ l < 1048576) (hpl : plainB (table.getD x.f0.toNat []) x = true) (h6 : x.f0 = 6) (h7 : ¬ l + 1 < 1048576) :
  Calls Tryz.prog 145 #[.pointer (some ⟨a, 0, none⟩), .pointer (some p), .bool false] w (locs w a v0 v1 (.slice (some ⟨tg, 0, none⟩) 18 tc) (opQ l x false)) := by
 have HQ := Lib.hid (show opQ l x false = .error 21 by rw [opQ, if_pos ⟨h1, h2⟩, if_pos hpl, if_pos (.inl rfl), if_pos h6, if_neg h7])
 have c2 := blk_cell hb 2
 have c3 := blk_cell hb 3
 have c4 := blk_cell hb 4
 have z3 := blk_frozen hb 3
 have e0 := hx.e0
 simp only [List.getElem?_toArray, List.getElem?_cons_succ, List.getElem?_cons_zero] at c2 c3 c4
 obtain ⟨i, hi⟩ : ∃ i : Int, x.f0 = i := ⟨_, rfl⟩
 obtain ⟨g, c, ht, hrow⟩ := hT.at_ x.f0.toNat (by omega) (by omega)
 have hn := table_short x.f0.toNat
 have hp := plain_any g (table.getD x.f0.toNat []) c p x A5 c5 A6 c6 w.drew.drew (hrow.of (fun _ _ h => h)) hn hx.e1 hx.e2 hx.e3 hx.e4 hx.e5 hx.e6
 generalize htn : (table.getD x.f0.toNat []).length = tn at ht hp
 rw [hpl] at hp
 have HP := Lib.hid hp
 rw [hi] at ht e0 h1 h2 h6
 have h0 : (0 : Int) ≤ i := by omega
 have d1 : decide (1 ≤ i) = true := decide_eq_true h1
 have d2 : decide (i < 18) = true := decide_eq_true h2
 have HX := Lib.hid hx
 clear hp hi hrow hx hT hn htn
 have b6 : (i == 6) = true := by simp; omega
 have d7 : decide (l + 1 < 1048576) = false := decide_eq_false h7
 clear h6
 go_enter Tryz.func145, Tryz.ntmps145
 go_wp2_with fail
 refine wp_region_still_tail 18 (by kernel_rfl) (by kernel_rfl) ?_
 change wpStill _ _ w.drew (fun a' => wpList _ _ _ _ a' w.drew) _ _
 simp only [List.take_succ_cons, List.take_zero, List.drop_succ_cons, List.drop_zero]
 repeat still_step
 refine wpStill_nil ?_
 go_wp2_with fail
 refine (must_yes a 12 w.drew c4).mono ?_
 rintro e w1 ⟨rfl, rfl⟩
 go_wp2_with fail
 go_region_dies
 all_goals (
  rename_i K hK
  refine HP.out.mono ?_
  rintro e w2 ⟨rfl, hbl⟩
  have HB := Lib.hid hbl
  clear hbl
  refine hK _ _ ?_
  clear hK K
  refine wpAny_ready (rs := [13]) (by kernel_rfl) (by simp) ?_
  refine AllReady.cons rfl (fun K hK => ?_) AllReady.nil
  go_simp
  refine (must_yes a 1 w2 (below_cells HB.out _ _ c4)).mono ?_
  rintro e w3 ⟨rfl, rfl⟩
  refine hK _ _ ?_
  clear hK K
  refine wpAny_done (by kernel_rfl) ?_ _
  have q0 := below_cells HB.out _ _ e0
  have q3 := below_cells HB.out _ _ c3
  have q4 := below_cells HB.out _ _ c4
  have hb2 : AskerAt w2 a v0 v1 (.slice (some ⟨tg, 0, none⟩) 18 tc) l := (HB.out.block a (blk_lt hb)).trans hb
  have y3 := blk_frozen hb2 3
  have HB2 := Lib.hid hb2
  clear hb2
  go_wp2_with fail
  refine (must_yes a 19 w2 q4).mono ?_
  rintro e w4 ⟨rfl, rfl⟩
  have hw : IntKind.i64.wrap (l + 1) = l + 1 := (by rw [IntKind.wrap_i64]; omega)
  have hb3 := blk_put HB2.out 3 (.int .i64 (l + 1)) rfl
  have r4 := blk_cell hb3 4
  have r3 := blk_cell hb3 3
  simp only [List.getElem?_toArray, List.getElem?_cons_succ, List.getElem?_cons_zero, List.setIfInBounds_toArray, List.set_cons_succ, List.set_cons_zero] at r3 r4
  go_wp2_with fail
  refine (must_not a 21 (w2.setCell ⟨a, 3, none⟩ (.int .i64 (l + 1))) r4).mono ?_
  rintro e w5 ⟨rfl, rfl⟩
  exact ⟨rfl, (by rw [HQ.out]; rfl), ((kept_two HB.out)).trans (Kept.set _ _ _), fun m hm => (by rw [HQ.out] at hm; cases hm)⟩)
set_option maxRecDepth 100000 in
set_option maxHeartbeats 3200000 in
theorem op_jump (a : Nat) (p : Addr) (l : Int) (x : Ins) (A5 : Option Addr) (c5 : Nat) (A6 : Option Addr) (c6 : Nat) (w : World) (v0 v1 : Value) (tg tc : Nat) (hb : AskerAt w a v0 v1 (.slice (some ⟨tg, 0, none⟩) 18 tc) l) (hx : InsAt w p x A5 c5 A6 c6) (h1 : 1 ≤ x.f0) (h2 : x.f0 < 18)
  (hT : TableAt w tg) (hl : 0 ≤ l ∧ l < 1048576) (hpl : plainB (table.getD x.f0.toNat []) x = true) (h3 : x.f0 = 13) :
  Calls Tryz.prog 145 #[.pointer (some ⟨a, 0, none⟩), .pointer (some p), .bool true] w (locs w a v0 v1 (.slice (some ⟨tg, 0, none⟩) 18 tc) (opQ l x true)) := by
 have HQ := Lib.hid (show opQ l x true = .ok l by rw [opQ, if_pos ⟨h1, h2⟩, if_pos hpl, if_pos (.inr (.inl h3)), if_neg (by omega)])
 have c2 := blk_cell hb 2
 have c3 := blk_cell hb 3
 have c4 := blk_cell hb 4
 have z3 := blk_frozen hb 3
 have e0 := hx.e0
 simp only [List.getElem?_toArray, List.getElem?_cons_succ, List.getElem?_cons_zero] at c2 c3 c4
 obtain ⟨i, hi⟩ : ∃ i : Int, x.f0 = i := ⟨_, rfl⟩
 obtain ⟨g, c, ht, hrow⟩ := hT.at_ x.f0.toNat (by omega) (by omega)
 have hn := table_short x.f0.toNat
 have hp := plain_any g (table.getD x.f0.toNat []) c p x A5 c5 A6 c6 w.drew.drew (hrow.of (fun _ _ h => h)) hn hx.e1 hx.e2 hx.e3 hx.e4 hx.e5 hx.e6
 generalize htn : (table.getD x.f0.toNat []).length = tn at ht hp
 rw [hpl] at hp
 have HP := Lib.hid hp
 rw [hi] at ht e0 h1 h2 h3
 have h0 : (0 : Int) ≤ i := by omega
 have d1 : decide (1 ≤ i) = true := decide_eq_true h1
 have d2 : decide (i < 18) = true := decide_eq_true h2
 have HX := Lib.hid hx
 clear hp hi hrow hx hT hn htn
 have b13 : (i == 13) = true := by simp; omega
 have b6 : (i == 6) = false := by simp; omega
 clear h3
 go_enter Tryz.func145, Tryz.ntmps145
 go_wp2_with fail
 refine wp_region_still_tail 18 (by kernel_rfl) (by kernel_rfl) ?_
 change wpStill _ _ w.drew (fun a' => wpList _ _ _ _ a' w.drew) _ _
 simp only [List.take_succ_cons, List.take_zero, List.drop_succ_cons, List.drop_zero]
 repeat still_step
 refine wpStill_nil ?_
 go_wp2_with fail
 refine (must_yes a 12 w.drew c4).mono ?_
 rintro e w1 ⟨rfl, rfl⟩
 go_wp2_with fail
 go_region_dies
 all_goals (
  rename_i K hK
  refine HP.out.mono ?_
  rintro e w2 ⟨rfl, hbl⟩
  have HB := Lib.hid hbl
  clear hbl
  refine hK _ _ ?_
  clear hK K
  refine wpAny_ready (rs := [13]) (by kernel_rfl) (by simp) ?_
  refine AllReady.cons rfl (fun K hK => ?_) AllReady.nil
  go_simp
  refine (must_yes a 1 w2 (below_cells HB.out _ _ c4)).mono ?_
  rintro e w3 ⟨rfl, rfl⟩
  refine hK _ _ ?_
  clear hK K
  refine wpAny_done (by kernel_rfl) ?_ _
  have q0 := below_cells HB.out _ _ e0
  have q3 := below_cells HB.out _ _ c3
  have q4 := below_cells HB.out _ _ c4
  have hb2 : AskerAt w2 a v0 v1 (.slice (some ⟨tg, 0, none⟩) 18 tc) l := (HB.out.block a (blk_lt hb)).trans hb
  have y3 := blk_frozen hb2 3
  have HB2 := Lib.hid hb2
  clear hb2
  go_wp2_with fail
  refine (must_yes a 19 w2 q4).mono ?_
  rintro e w4 ⟨rfl, rfl⟩
  go_wp2_with fail
  go_end0
  exact ⟨(by rw [HQ.out]; rfl), (kept_two HB.out), fun m hm => (by rw [HQ.out] at hm; injection hm with hm; subst hm; exact HB2.out)⟩)
set_option maxRecDepth 100000 in
set_option maxHeartbeats 3200000 in
theorem op_ret (a : Nat) (p : Addr) (l : Int) (x : Ins) (A5 : Option Addr) (c5 : Nat) (A6 : Option Addr) (c6 : Nat) (w : World) (v0 v1 : Value) (tg tc : Nat) (hb : AskerAt w a v0 v1 (.slice (some ⟨tg, 0, none⟩) 18 tc) l) (hx : InsAt w p x A5 c5 A6 c6) (h1 : 1 ≤ x.f0) (h2 : x.f0 < 18)
  (hT : TableAt w tg) (hl : 0 ≤ l ∧ l < 1048576) (hpl : plainB (table.getD x.f0.toNat []) x = true) (h5 : x.f0 = 15) :
  Calls Tryz.prog 145 #[.pointer (some ⟨a, 0, none⟩), .pointer (some p), .bool true] w (locs w a v0 v1 (.slice (some ⟨tg, 0, none⟩) 18 tc) (opQ l x true)) := by
 have HQ := Lib.hid (show opQ l x true = .ok l by rw [opQ, if_pos ⟨h1, h2⟩, if_pos hpl, if_pos (.inr (.inr h5)), if_neg (by omega)])
 have c2 := blk_cell hb 2
 have c3 := blk_cell hb 3
 have c4 := blk_cell hb 4
 have z3 := blk_frozen hb 3
 have e0 := hx.e0
 simp only [List.getElem?_toArray, List.getElem?_cons_succ, List.getElem?_cons_zero] at c2 c3 c4
 obtain ⟨i, hi⟩ : ∃ i : Int, x.f0 = i := ⟨_, rfl⟩
 obtain ⟨g, c, ht, hrow⟩ := hT.at_ x.f0.toNat (by omega) (by omega)
 have hn := table_short x.f0.toNat
 have hp := plain_any g (table.getD x.f0.toNat []) c p x A5 c5 A6 c6 w.drew.drew (hrow.of (fun _ _ h => h)) hn hx.e1 hx.e2 hx.e3 hx.e4 hx.e5 hx.e6
 generalize htn : (table.getD x.f0.toNat []).length = tn at ht hp
 rw [hpl] at hp
 have HP := Lib.hid hp
 rw [hi] at ht e0 h1 h2 h5
 have h0 : (0 : Int) ≤ i := by omega
 have d1 : decide (1 ≤ i) = true := decide_eq_true h1
 have d2 : decide (i < 18) = true := decide_eq_true h2
 have HX := Lib.hid hx
 clear hp hi hrow hx hT hn htn
 have b13 : (i == 13) = false := by simp; omega
 have b15 : (i == 15) = true := by simp; omega
 have b6 : (i == 6) = false := by simp; omega
 clear h5
 go_enter Tryz.func145, Tryz.ntmps145
 go_wp2_with fail
 refine wp_region_still_tail 18 (by kernel_rfl) (by kernel_rfl) ?_
 change wpStill _ _ w.drew (fun a' => wpList _ _ _ _ a' w.drew) _ _
 simp only [List.take_succ_cons, List.take_zero, List.drop_succ_cons, List.drop_zero]
 repeat still_step
 refine wpStill_nil ?_
 go_wp2_with fail
 refine (must_yes a 12 w.drew c4).mono ?_
 rintro e w1 ⟨rfl, rfl⟩
 go_wp2_with fail
 go_region_dies
 all_goals (
  rename_i K hK
  refine HP.out.mono ?_
  rintro e w2 ⟨rfl, hbl⟩
  have HB := Lib.hid hbl
  clear hbl
  refine hK _ _ ?_
  clear hK K
  refine wpAny_ready (rs := [13]) (by kernel_rfl) (by simp) ?_
  refine AllReady.cons rfl (fun K hK => ?_) AllReady.nil
  go_simp
  refine (must_yes a 1 w2 (below_cells HB.out _ _ c4)).mono ?_
  rintro e w3 ⟨rfl, rfl⟩
  refine hK _ _ ?_
  clear hK K
  refine wpAny_done (by kernel_rfl) ?_ _
  have q0 := below_cells HB.out _ _ e0
  have q3 := below_cells HB.out _ _ c3
  have q4 := below_cells HB.out _ _ c4
  have hb2 : AskerAt w2 a v0 v1 (.slice (some ⟨tg, 0, none⟩) 18 tc) l := (HB.out.block a (blk_lt hb)).trans hb
  have y3 := blk_frozen hb2 3
  have HB2 := Lib.hid hb2
  clear hb2
  go_wp2_with fail
  refine (must_yes a 19 w2 q4).mono ?_
  rintro e w4 ⟨rfl, rfl⟩
  go_wp2_with fail
  go_end0
  exact ⟨(by rw [HQ.out]; rfl), (kept_two HB.out), fun m hm => (by rw [HQ.out] at hm; injection hm with hm; subst hm; exact HB2.out)⟩)
set_option maxRecDepth 100000 in
set_option maxHeartbeats 3200000 in
theorem op_open (a : Nat) (p : Addr) (l : Int) (x : Ins) (A5 : Option Addr) (c5 : Nat) (A6 : Option Addr) (c6 : Nat) (w : World) (v0 v1 : Value) (tg tc : Nat) (hb : AskerAt w a v0 v1 (.slice (some ⟨tg, 0, none⟩) 18 tc) l) (hx : InsAt w p x A5 c5 A6 c6) (h1 : 1 ≤ x.f0) (h2 : x.f0 < 18)
  (hT : TableAt w tg) (hl : 0 ≤ l ∧ l < 1048576) (hpl : plainB (table.getD x.f0.toNat []) x = true) (h3 : x.f0 ≠ 13) (h5 : x.f0 ≠ 15) :
  Calls Tryz.prog 145 #[.pointer (some ⟨a, 0, none⟩), .pointer (some p), .bool true] w (locs w a v0 v1 (.slice (some ⟨tg, 0, none⟩) 18 tc) (opQ l x true)) := by
 have HQ := Lib.hid (show opQ l x true = .error 19 by rw [opQ, if_pos ⟨h1, h2⟩, if_pos hpl, if_neg (by rintro (h | h | h) <;> first | cases h | omega)])
 have c2 := blk_cell hb 2
 have c3 := blk_cell hb 3
 have c4 := blk_cell hb 4
 have z3 := blk_frozen hb 3
 have e0 := hx.e0
 simp only [List.getElem?_toArray, List.getElem?_cons_succ, List.getElem?_cons_zero] at c2 c3 c4
 obtain ⟨i, hi⟩ : ∃ i : Int, x.f0 = i := ⟨_, rfl⟩
 obtain ⟨g, c, ht, hrow⟩ := hT.at_ x.f0.toNat (by omega) (by omega)
 have hn := table_short x.f0.toNat
 have hp := plain_any g (table.getD x.f0.toNat []) c p x A5 c5 A6 c6 w.drew.drew (hrow.of (fun _ _ h => h)) hn hx.e1 hx.e2 hx.e3 hx.e4 hx.e5 hx.e6
 generalize htn : (table.getD x.f0.toNat []).length = tn at ht hp
 rw [hpl] at hp
 have HP := Lib.hid hp
 rw [hi] at ht e0 h1 h2 h3 h5
 have h0 : (0 : Int) ≤ i := by omega
 have d1 : decide (1 ≤ i) = true := decide_eq_true h1
 have d2 : decide (i < 18) = true := decide_eq_true h2
 have HX := Lib.hid hx
 clear hp hi hrow hx hT hn htn
 have b13 : (i == 13) = false := by simp; omega
 have b15 : (i == 15) = false := by simp; omega
 clear h3 h5
 go_enter Tryz.func145, Tryz.ntmps145
 go_wp2_with fail
 refine wp_region_still_tail 18 (by kernel_rfl) (by kernel_rfl) ?_
 change wpStill _ _ w.drew (fun a' => wpList _ _ _ _ a' w.drew) _ _
 simp only [List.take_succ_cons, List.take_zero, List.drop_succ_cons, List.drop_zero]
 repeat still_step
 refine wpStill_nil ?_
 go_wp2_with fail
 refine (must_yes a 12 w.drew c4).mono ?_
 rintro e w1 ⟨rfl, rfl⟩
 go_wp2_with fail
 go_region_dies
 all_goals (
  rename_i K hK
  refine HP.out.mono ?_
  rintro e w2 ⟨rfl, hbl⟩
  have HB := Lib.hid hbl
  clear hbl
  refine hK _ _ ?_
  clear hK K
  refine wpAny_ready (rs := [13]) (by kernel_rfl) (by simp) ?_
  refine AllReady.cons rfl (fun K hK => ?_) AllReady.nil
  go_simp
  refine (must_yes a 1 w2 (below_cells HB.out _ _ c4)).mono ?_
  rintro e w3 ⟨rfl, rfl⟩
  refine hK _ _ ?_
  clear hK K
  refine wpAny_done (by kernel_rfl) ?_ _
  have q0 := below_cells HB.out _ _ e0
  have q3 := below_cells HB.out _ _ c3
  have q4 := below_cells HB.out _ _ c4
  have hb2 : AskerAt w2 a v0 v1 (.slice (some ⟨tg, 0, none⟩) 18 tc) l := (HB.out.block a (blk_lt hb)).trans hb
  have y3 := blk_frozen hb2 3
  have HB2 := Lib.hid hb2
  clear hb2
  go_wp2_with fail
  refine (must_not a 19 w2 q4).mono ?_
  rintro e w4 ⟨rfl, rfl⟩
  exact ⟨rfl, (by rw [HQ.out]; rfl), (kept_two HB.out), fun m hm => (by rw [HQ.out] at hm; cases hm)⟩)
theorem op_any (a : Nat) (p : Addr) (last : Bool) (l : Int) (x : Ins) (A5 : Option Addr) (c5 : Nat) (A6 : Option Addr) (c6 : Nat) (w : World) (v0 v1 : Value) (tg tc : Nat) (hb : AskerAt w a v0 v1 (.slice (some ⟨tg, 0, none⟩) 18 tc) l) (hx : InsAt w p x A5 c5 A6 c6)
  (hT : TableAt w tg) (hl : 0 ≤ l ∧ l < 1048576) :
  Calls Tryz.prog 145 #[.pointer (some ⟨a, 0, none⟩), .pointer (some p), .bool last] w (locs w a v0 v1 (.slice (some ⟨tg, 0, none⟩) 18 tc) (opQ l x last)) := by
 by_cases ho : 1 ≤ x.f0 ∧ x.f0 < 18
 ·cases hpl : plainB (table.getD x.f0.toNat []) x with
  | false => exact op_odd a p last l x A5 c5 A6 c6 w v0 v1 tg tc hb hx ho.1 ho.2 hT hl hpl
  | true =>
   cases last with
   | false =>
    by_cases h6 : x.f0 = 6
    ·by_cases h7 : l + 1 < 1048576
     ·exact op_new a p l x A5 c5 A6 c6 w v0 v1 tg tc hb hx ho.1 ho.2 hT hl hpl h6 h7
     ·exact op_large a p l x A5 c5 A6 c6 w v0 v1 tg tc hb hx ho.1 ho.2 hT hl hpl h6 h7
    ·exact op_mid a p l x A5 c5 A6 c6 w v0 v1 tg tc hb hx ho.1 ho.2 hT hl hpl h6
   | true =>
    by_cases h3 : x.f0 = 13
    ·exact op_jump a p l x A5 c5 A6 c6 w v0 v1 tg tc hb hx ho.1 ho.2 hT hl hpl h3
    ·by_cases h5 : x.f0 = 15
     ·exact op_ret a p l x A5 c5 A6 c6 w v0 v1 tg tc hb hx ho.1 ho.2 hT hl hpl h5
     ·exact op_open a p l x A5 c5 A6 c6 w v0 v1 tg tc hb hx ho.1 ho.2 hT hl hpl h3 h5
 ·exact op_not a p last l x A5 c5 A6 c6 w v0 v1 tg tc hb hx ho
end Go.Proofs.YtcbcacbbnojdjaaGreatDoor
