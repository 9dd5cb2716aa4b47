/-
 Part J of what the law's proof needs: walks of the program's functions and the plain laws of what they tell. No condition.
-/
import Derived.Test.YtcbcacbbnojdjaaGreatDoorMgI
import Derived.Test.YtcbcacbbnojdjaaGreatDoorMgG
namespace Go.Proofs.YtcbcacbbnojdjaaGreatDoor
open Go.RowKit Go.Proofs.YtcbcacbbnojdjaaGreatDoorW.PrintWords Go.Proofs.YtcbcacbbnojdjaaGreatDoor.PSolveFunctions
set_option linter.unusedVariables false
set_option linter.unusedSimpArgs false
theorem numc_ask (v : Int) : need (decide (1 ≤ v ∧ v < 9)) 17 = need (decide (1 ≤ v ∧ v ≤ 8)) 17 := by
 rw [show decide (1 ≤ v ∧ v < 9) = decide (1 ≤ v ∧ v ≤ 8) by rw [Bool.eq_iff_iff]; simp; omega]
theorem letE_c {G : Int} {fs : List Fun} {f : Fun} {x : Ins} {e : Int} : letE G fs f x .c e = stick e (decide (1 ≤ x.f4 ∧ x.f4 ≤ 8)) 17 := letE_need (numc_ask x.f4)
theorem letter_at {i : Int} {s : ByteArray} (hs : s = partStr i) (h : 1 ≤ i ∧ i < 18) {j : Nat} (hj : j < s.size) : ((s[j]'hj).toNat : Int) = (((table.getD i.toNat []).getD j .i).ch.toNat : Int) := by
 subst hs
 rw [← partStr_letter i h j (by rw [← partStr_size i h]; exact hj)]
 exact bt_at _ (j : Int) (by simpa using hj)
set_option maxRecDepth 100000 in
set_option maxHeartbeats 12800000 in
theorem instrR_any (g : Nat) (G : Int) (A : Option Addr) (c : Nat) (fs : List Fun) (l : Int) (f : Fun) (FA : Option Addr) (fc : Nat) (x : Ins) (A5 : Option Addr) (c5 : Nat) (A6 : Option Addr) (c6 : Nat) (last : Bool) (wB w : World) (h : WalkAt w g (.int .i64 G) (.slice A fs.length c) l 0) (hl : 0 ≤ l ∧ l < 1048576)
  (hB : Below wB.heap.size wB w) (hg : wB.heap.size ≤ g) (hC : k66.C wB A fs.length fs) (h5 : (Kd.int .i64).C wB A5 x.f5.length x.f5) (h6 : (Kd.int .i64).C wB A6 x.f6.length x.f6) (l5 : x.f5.length ≤ 2147483647) (l6 : x.f6.length ≤ 2147483647) :
  Calls Tryz.prog 117 #[.pointer (some ⟨g, 0, none⟩), .agg #[.int .i64 f.f0, .int .i64 f.f1, .int .i64 f.f2, .slice FA f.f3.length fc], .agg #[.int .i64 x.f0, .int .i64 x.f1, .int .i64 x.f2, .int .i64 x.f3, .int .i64 x.f4, .slice A5 x.f5.length c5, .slice A6 x.f6.length c6], .bool last] w (locsR w g (.int .i64 G) (.slice A fs.length c) (insQ G fs f l x last)) := by
 have hg0 : g < w.heap.size := blk_lt h
 have HBB := Lib.hid hB
 have HC := Lib.hid hC
 have H5 := Lib.hid h5
 have H6 := Lib.hid h6
 obtain ⟨q, hq⟩ : ∃ q, q = insQ G fs f l x last := ⟨_, rfl⟩
 rw [← hq]
 have HQ := Lib.hid hq
 clear hB hC h5 h6 hq
 go_enter Tryz.func117, Tryz.ntmps117
 go_upto_region 1 with (fail)
 have hb0 := below1 w (.cells #[.int .i64 f.f0, .int .i64 f.f1, .int .i64 f.f2, .slice FA f.f3.length fc] 66)
 have hf := alloc_new w (.cells #[.int .i64 f.f0, .int .i64 f.f1, .int .i64 f.f2, .slice FA f.f3.length fc] 66)
 have hx := alloc_new (w.alloc (.cells #[.int .i64 f.f0, .int .i64 f.f1, .int .i64 f.f2, .slice FA f.f3.length fc] 66)) (.cells #[.int .i64 x.f0, .int .i64 x.f1, .int .i64 x.f2, .int .i64 x.f3, .int .i64 x.f4, .slice A5 x.f5.length c5, .slice A6 x.f6.length c6] 79)
 have hb1 := below1 (w.alloc (.cells #[.int .i64 f.f0, .int .i64 f.f1, .int .i64 f.f2, .slice FA f.f3.length fc] 66)) (.cells #[.int .i64 x.f0, .int .i64 x.f1, .int .i64 x.f2, .int .i64 x.f3, .int .i64 x.f4, .slice A5 x.f5.length c5, .slice A6 x.f6.length c6] 79)
 have hf2 := (hb1.block _ (blk_lt hf)).trans hf
 rw [show (w.alloc (.cells #[.int .i64 f.f0, .int .i64 f.f1, .int .i64 f.f2, .slice FA f.f3.length fc] 66)).heap.size = w.heap.size + 1 by simp] at hx
 have hb := hb0.trans (hb1.mono hb0.size)
 clear hb0 hb1 hf
 generalize World.alloc (World.alloc _ _) _ = W at hx hb hf2 ⊢
 have hw := walk_below h hb
 have z0 := blk_cell hx 0
 have z1 := blk_cell hx 1
 have z2 := blk_cell hx 2
 have z3 := blk_cell hx 3
 have z4 := blk_cell hx 4
 have z5 := blk_cell hx 5
 have z6 := blk_cell hx 6
 simp only [List.getElem?_toArray, List.getElem?_cons_succ, List.getElem?_cons_zero] at z0 z1 z2 z3 z4 z5 z6
 have HF := Lib.hid hf2
 have HX := Lib.hid hx
 have HW := Lib.hid hw
 have HB := Lib.hid hb
 clear hx hb hf2 hw h
 go_wp2_with fail
 refine (opR_any g _ _ l x A5 c5 A6 c6 last W HW.out hl).mono ?_
 rintro e w1 ⟨rfl, hk1, hm⟩
 have hne : w.heap.size ≠ g := by omega
 have hne1 : w.heap.size + 1 ≠ g := by omega
 have HK1 := Lib.hid ((Kept.of_below HB.out).trans hk1)
 have HF1 := Lib.hid ((hk1.block _ (blk_lt HF.out) hne).trans HF.out)
 have HX1 := Lib.hid ((hk1.block _ (blk_lt HX.out) hne1).trans HX.out)
 have hM : ∃ l' e0, WalkAt w1 g (.int .i64 G) (.slice A fs.length c) l' e0 ∧ ((e0 ≠ 0 ∧ q = .error e0) ∨ (e0 = 0 ∧ (1 ≤ x.f0 ∧ x.f0 < 18) ∧ q = (if insE G fs f x 0 (table.getD x.f0.toNat []).length = 0 then .ok l' else .error (insE G fs f x 0 (table.getD x.f0.toNat []).length)))) := by
  cases hq : opQ l x last with
  | ok m =>
   rw [hq] at hm
   exact ⟨m, 0, hm, .inr ⟨rfl, ⟨(opQ_range hq hl).1, (opQ_range hq hl).2.1⟩, HQ.out.trans (insQ_ok hq)⟩⟩
  | error err =>
   rw [hq] at hm
   obtain ⟨l', hm⟩ := hm
   exact ⟨l', err, hm, .inl ⟨(opE_err hq hl).2, by rw [HQ.out, insQ, hq]⟩⟩
 clear hk1 hm z0 z1 z2 z3 z4 z5 z6 HW HB HF HX HQ
 obtain ⟨l', e0, hw1, hq⟩ := hM
 have HQ := Lib.hid hq
 have HW1 := Lib.hid hw1
 clear hq hw1
 have z0 := blk_cell HX1.out 0
 simp only [List.getElem?_toArray, List.getElem?_cons_zero] at z0
 have hs3 := partStr_short x.f0
 have HP := Lib.hid (parts_any x.f0 w1)
 obtain ⟨s, hs⟩ : ∃ s, s = partStr x.f0 := ⟨_, rfl⟩
 rw [← hs] at hs3 HP
 have HS := Lib.hid hs
 clear hs
 have hu := Tryz.underlying9
 go_wp2_with fail
 refine HP.out.mono ?_
 rintro e w2 ⟨rfl, hb2⟩
 have HL := Lib.hid (show LetAt g (.int .i64 G) (.slice A fs.length c) l' (insE G fs f x e0 0) f FA fc x A5 c5 A6 c6 w w2 from ⟨(insE_zero G fs f x e0).symm ▸ walk_below HW1.out hb2, HK1.out.trans (Kept.of_below hb2), (hb2.block _ (blk_lt HF1.out)).trans HF1.out, (hb2.block _ (blk_lt HX1.out)).trans HX1.out⟩)
 clear hb2 z0 HW1 HK1 HF1 HX1 HP
 go_wp2_with fail
 go_loopw [9] (fun i wr => ∃ j : Nat, j ≤ s.size ∧ i = .int .i64 j ∧ LetAt g (.int .i64 G) (.slice A fs.length c) l' (insE G fs f x e0 j) f FA fc x A5 c5 A6 c6 w wr) (fun i _ => s.size - (intOf i).toNat)
 case atStart => exact ⟨0, by omega, rfl, HL.out⟩
 case round =>
  clear HL
  obtain ⟨j, hj, rfl, hL⟩ := hrel
  have HL := Lib.hid hL
  clear hL
  by_cases hlt : j < s.size
  ·have ho : 1 ≤ x.f0 ∧ x.f0 < 18 := by
    apply Classical.byContradiction
    intro ho
    rw [HS.out, partStr_none _ ho] at hlt
    exact absurd hlt (by show ¬ j < 0; omega)
   have hlet := letter_at HS.out ho hlt
   have hjl : j < (table.getD x.f0.toNat []).length := by rw [← partStr_size _ ho, ← HS.out]; exact hlt
   have HE := Lib.hid (insE_succ G fs f x e0 j)
   have HCL := Lib.hid (fun h hp => insE_call (G := G) (fs := fs) (f := f) (x := x) (e := e0) (j := j) (by omega) hjl h hp)
   generalize (table.getD x.f0.toNat []).getD j .i = p at hlet HE HCL
   obtain ⟨e, he⟩ : ∃ e, insE G fs f x e0 j = e := ⟨_, rfl⟩
   rw [he] at HL HE HCL
   clear he ho hjl
   have y0 := blk_cell HL.out.fn 0
   have y1 := blk_cell HL.out.fn 1
   have y2 := blk_cell HL.out.fn 2
   have y3 := blk_cell HL.out.fn 3
   have z0 := blk_cell HL.out.is 0
   have z1 := blk_cell HL.out.is 1
   have z2 := blk_cell HL.out.is 2
   have z3 := blk_cell HL.out.is 3
   have z4 := blk_cell HL.out.is 4
   have z5 := blk_cell HL.out.is 5
   have z6 := blk_cell HL.out.is 6
   simp only [List.getElem?_toArray, List.getElem?_cons_succ, List.getElem?_cons_zero] at y0 y1 y2 y3 z0 z1 z2 z3 z4 z5 z6
   cases p with
   | R =>
    replace hlet : ((s[j]'hlt).toNat : Int) = 82 := hlet
    go_wp2_with fail
    refine (vaR_any g _ _ l' e f FA f.f3.length fc x.f1 wr HL.out.wk).mono ?_
    rintro r w3 ⟨rfl, hk3, hw3⟩
    have HN := Lib.hid (HL.out.step hg0 0 hk3 hw3)
    clear hk3 hw3 y0 y1 y2 y3 z0 z1 z2 z3 z4 z5 z6 hlet
    go_wp2_with fail
    go_roundw
    case rel => exact ⟨j + 1, by omega, by go_num, by rw [HE.out, letE_need (b := varOk f x.f1) (er := 13) rfl]; exact HN.out⟩
    case measure => simp [intOf]; omega
   | S =>
    replace hlet : ((s[j]'hlt).toNat : Int) = 83 := hlet
    go_wp2_with fail
    refine (vaR_any g _ _ l' e f FA f.f3.length fc x.f2 wr HL.out.wk).mono ?_
    rintro r w3 ⟨rfl, hk3, hw3⟩
    have HN := Lib.hid (HL.out.step hg0 0 hk3 hw3)
    clear hk3 hw3 y0 y1 y2 y3 z0 z1 z2 z3 z4 z5 z6 hlet
    go_wp2_with fail
    go_roundw
    case rel => exact ⟨j + 1, by omega, by go_num, by rw [HE.out, letE_need (b := varOk f x.f2) (er := 13) rfl]; exact HN.out⟩
    case measure => simp [intOf]; omega
   | T =>
    replace hlet : ((s[j]'hlt).toNat : Int) = 84 := hlet
    go_wp2_with fail
    refine (vaR_any g _ _ l' e f FA f.f3.length fc x.f3 wr HL.out.wk).mono ?_
    rintro r w3 ⟨rfl, hk3, hw3⟩
    have HN := Lib.hid (HL.out.step hg0 0 hk3 hw3)
    clear hk3 hw3 y0 y1 y2 y3 z0 z1 z2 z3 z4 z5 z6 hlet
    go_wp2_with fail
    go_roundw
    case rel => exact ⟨j + 1, by omega, by go_num, by rw [HE.out, letE_need (b := varOk f x.f3) (er := 13) rfl]; exact HN.out⟩
    case measure => simp [intOf]; omega
   | i =>
    replace hlet : ((s[j]'hlt).toNat : Int) = 105 := hlet
    go_wp2_with fail
    refine wp_region_still_tail 9 (by kernel_rfl) (by kernel_rfl) ?_
    change wpStill _ _ wr.drew (fun a' => wpList _ _ _ _ a' wr.drew) _ _
    simp only [List.take_succ_cons, List.take_zero, List.drop_succ_cons, List.drop_zero]
    repeat still_step
    refine wpStill_nil ?_
    go_wp2_with fail
    refine (numi_any g _ _ l' e x.f4 f.f3.length wr.drew HL.out.wk).mono ?_
    rintro r w3 ⟨rfl, hk3, hw3⟩
    have HN := Lib.hid (HL.out.step hg0 1 hk3 hw3)
    clear hk3 hw3 y0 y1 y2 y3 z0 z1 z2 z3 z4 z5 z6 hlet
    go_wp2_with fail
    go_roundw
    case rel => exact ⟨j + 1, by omega, by go_num, by rw [HE.out, letE_i]; exact HN.out⟩
    case measure => simp [intOf]; omega
   | c =>
    replace hlet : ((s[j]'hlt).toNat : Int) = 99 := hlet
    go_wp2_with fail
    refine wp_region_still_tail 9 (by kernel_rfl) (by kernel_rfl) ?_
    change wpStill _ _ wr.drew (fun a' => wpList _ _ _ _ a' wr.drew) _ _
    simp only [List.take_succ_cons, List.take_zero, List.drop_succ_cons, List.drop_zero]
    repeat still_step
    refine wpStill_nil ?_
    go_wp2_with fail
    refine (numc_any g _ _ l' e x.f4 f.f3.length wr.drew HL.out.wk).mono ?_
    rintro r w3 ⟨rfl, hk3, hw3⟩
    have HN := Lib.hid (HL.out.step hg0 1 hk3 hw3)
    clear hk3 hw3 y0 y1 y2 y3 z0 z1 z2 z3 z4 z5 z6 hlet
    go_wp2_with fail
    go_roundw
    case rel => exact ⟨j + 1, by omega, by go_num, by rw [HE.out, letE_c]; exact HN.out⟩
    case measure => simp [intOf]; omega
   | f =>
    replace hlet : ((s[j]'hlt).toNat : Int) = 102 := hlet
    go_wp2_with fail
    refine wp_region_still_tail 9 (by kernel_rfl) (by kernel_rfl) ?_
    change wpStill _ _ wr.drew (fun a' => wpList _ _ _ _ a' wr.drew) _ _
    simp only [List.take_succ_cons, List.take_zero, List.drop_succ_cons, List.drop_zero]
    repeat still_step
    refine wpStill_nil ?_
    go_wp2_with fail
    refine (numf_any g _ _ l' e x.f4 f.f3.length wr.drew HL.out.wk).mono ?_
    rintro r w3 ⟨rfl, hk3, hw3⟩
    have HN := Lib.hid (HL.out.step hg0 1 hk3 hw3)
    clear hk3 hw3 y0 y1 y2 y3 z0 z1 z2 z3 z4 z5 z6 hlet
    go_wp2_with fail
    go_roundw
    case rel => exact ⟨j + 1, by omega, by go_num, by rw [HE.out, letE_need rfl]; exact HN.out⟩
    case measure => simp [intOf]; omega
   | g =>
    replace hlet : ((s[j]'hlt).toNat : Int) = 103 := hlet
    go_wp2_with fail
    refine wp_region_still_tail 9 (by kernel_rfl) (by kernel_rfl) ?_
    change wpStill _ _ wr.drew (fun a' => wpList _ _ _ _ a' wr.drew) _ _
    simp only [List.take_succ_cons, List.take_zero, List.drop_succ_cons, List.drop_zero]
    repeat still_step
    refine wpStill_nil ?_
    go_wp2_with fail
    refine (numg_any g G A fs.length c l' e x.f4 f.f3.length wr.drew HL.out.wk).mono ?_
    rintro r w3 ⟨rfl, hk3, hw3⟩
    have HN := Lib.hid (HL.out.step hg0 1 hk3 hw3)
    clear hk3 hw3 y0 y1 y2 y3 z0 z1 z2 z3 z4 z5 z6 hlet
    go_wp2_with fail
    go_roundw
    case rel => exact ⟨j + 1, by omega, by go_num, by rw [HE.out, letE_need rfl]; exact HN.out⟩
    case measure => simp [intOf]; omega
   | F =>
    replace hlet : ((s[j]'hlt).toNat : Int) = 70 := hlet
    go_wp2_with fail
    refine wp_region_still_tail 9 (by kernel_rfl) (by kernel_rfl) ?_
    change wpStill _ _ wr.drew (fun a' => wpList _ _ _ _ a' wr.drew) _ _
    simp only [List.take_succ_cons, List.take_zero, List.drop_succ_cons, List.drop_zero]
    repeat still_step
    refine wpStill_nil ?_
    go_wp2_with fail
    refine (numF_any g G A fs.length c l' e x.f4 f.f3.length wr.drew HL.out.wk).mono ?_
    rintro r w3 ⟨rfl, hk3, hw3⟩
    have HN := Lib.hid (HL.out.step hg0 1 hk3 hw3)
    clear hk3 hw3 y0 y1 y2 y3 z0 z1 z2 z3 z4 z5 z6 hlet
    go_wp2_with fail
    go_roundw
    case rel => exact ⟨j + 1, by omega, by go_num, by rw [HE.out, letE_need rfl]; exact HN.out⟩
    case measure => simp [intOf]; omega
   | J =>
    replace hlet : ((s[j]'hlt).toNat : Int) = 74 := hlet
    go_wp2_with fail
    refine wp_region_still_tail 9 (by kernel_rfl) (by kernel_rfl) ?_
    change wpStill _ _ wr.drew (fun a' => wpList _ _ _ _ a' wr.drew) _ _
    simp only [List.take_succ_cons, List.take_zero, List.drop_succ_cons, List.drop_zero]
    repeat still_step
    refine wpStill_nil ?_
    go_wp2_with fail
    refine (numJ_any g _ _ l' e x.f4 f.f3.length wr.drew HL.out.wk).mono ?_
    rintro r w3 ⟨rfl, hk3, hw3⟩
    have HN := Lib.hid (HL.out.step hg0 1 hk3 hw3)
    clear hk3 hw3 y0 y1 y2 y3 z0 z1 z2 z3 z4 z5 z6 hlet
    go_wp2_with fail
    go_roundw
    case rel => exact ⟨j + 1, by omega, by go_num, by rw [HE.out, letE_need rfl]; exact HN.out⟩
    case measure => simp [intOf]; omega
   | A =>
    replace hlet : ((s[j]'hlt).toNat : Int) = 65 := hlet
    go_wp2_with fail
    refine wp_region_still_tail 6 (by kernel_rfl) (by kernel_rfl) ?_
    change wpStill _ _ wr.drew (fun a' => wpList _ _ _ _ a' wr.drew) _ _
    simp only [List.take_succ_cons, List.take_zero, List.drop_succ_cons, List.drop_zero]
    repeat still_step
    refine wpStill_nil ?_
    go_wp2_with fail
    have hct : Calls Tryz.prog 161 #[.pointer (some ⟨g, 0, none⟩), .int .u8 65, .agg #[.int .i64 f.f0, .int .i64 f.f1, .int .i64 f.f2, .slice FA f.f3.length fc], .agg #[.int .i64 x.f0, .int .i64 x.f1, .int .i64 x.f2, .int .i64 x.f3, .int .i64 x.f4, .slice A5 x.f5.length c5, .slice A6 x.f6.length c6]] wr.drew (sticks wr.drew g (.int .i64 G) (.slice A fs.length c) l' (letE G fs f x .A e)) := by
     by_cases he : e = 0
     ·subst he
      have hn := HCL.out rfl (by simp); rw [letE_list (l := x.f5) (m := (fs.getD x.f4.toNat zF).f0) rfl]
      exact listRA_ok g _ _ l' f FA f.f3.length fc x A5 c5 A6 _ c6 (fs.getD x.f4.toNat zF).f0 wB wr.drew HL.out.wk (HL.out.kp.below HBB.out (Nat.le_refl _) hg |> fun h => pw_below_drewN h 1) hg H5.out l5 (fun W hW => wantA_any g G A c fs _ _ f _ x _ _ _ _ _ _ W (walk_below (w := wr.drew) HL.out.wk hW) ⟨_, _, _, rfl⟩ (Kd.C_below HC.out (HL.out.kp.below HBB.out (Nat.le_refl _) hg |> fun h => h.trans ((below_drew (Below.refl _ _)).trans (hW.mono h.size)))) hn.1 hn.2)
     ·rw [letE_not he]
      exact listR_not g _ _ l' e 65 f _ x _ _ _ _ _ _ wr.drew HL.out.wk he ⟨_, _, _, rfl⟩
    refine hct.mono ?_
    rintro r w3 ⟨rfl, hk3, hw3⟩
    have HN := Lib.hid (HL.out.step hg0 1 hk3 hw3)
    clear hk3 hw3 hct y0 y1 y2 y3 z0 z1 z2 z3 z4 z5 z6 hlet
    go_wp2_with fail
    go_roundw
    case rel => exact ⟨j + 1, by omega, by go_num, by rw [HE.out]; exact HN.out⟩
    case measure => simp [intOf]; omega
   | B =>
    replace hlet : ((s[j]'hlt).toNat : Int) = 66 := hlet
    go_wp2_with fail
    refine wp_region_still_tail 6 (by kernel_rfl) (by kernel_rfl) ?_
    change wpStill _ _ wr.drew (fun a' => wpList _ _ _ _ a' wr.drew) _ _
    simp only [List.take_succ_cons, List.take_zero, List.drop_succ_cons, List.drop_zero]
    repeat still_step
    refine wpStill_nil ?_
    go_wp2_with fail
    have hct : Calls Tryz.prog 161 #[.pointer (some ⟨g, 0, none⟩), .int .u8 66, .agg #[.int .i64 f.f0, .int .i64 f.f1, .int .i64 f.f2, .slice FA f.f3.length fc], .agg #[.int .i64 x.f0, .int .i64 x.f1, .int .i64 x.f2, .int .i64 x.f3, .int .i64 x.f4, .slice A5 x.f5.length c5, .slice A6 x.f6.length c6]] wr.drew (sticks wr.drew g (.int .i64 G) (.slice A fs.length c) l' (letE G fs f x .B e)) := by
     by_cases he : e = 0
     ·subst he
      have hn := HCL.out rfl (by simp); rw [letE_list (l := x.f6) (m := (fs.getD x.f4.toNat zF).f1) rfl]
      exact listRB_ok g _ _ l' f FA f.f3.length fc x A6 c6 A5 _ c5 (fs.getD x.f4.toNat zF).f1 wB wr.drew HL.out.wk (HL.out.kp.below HBB.out (Nat.le_refl _) hg |> fun h => pw_below_drewN h 1) hg H6.out l6 (fun W hW => wantB_any g G A c fs _ _ f _ x _ _ _ _ _ _ W (walk_below (w := wr.drew) HL.out.wk hW) ⟨_, _, _, rfl⟩ (Kd.C_below HC.out (HL.out.kp.below HBB.out (Nat.le_refl _) hg |> fun h => h.trans ((below_drew (Below.refl _ _)).trans (hW.mono h.size)))) hn.1 hn.2)
     ·rw [letE_not he]
      exact listR_not g _ _ l' e 66 f _ x _ _ _ _ _ _ wr.drew HL.out.wk he ⟨_, _, _, rfl⟩
    refine hct.mono ?_
    rintro r w3 ⟨rfl, hk3, hw3⟩
    have HN := Lib.hid (HL.out.step hg0 1 hk3 hw3)
    clear hk3 hw3 hct y0 y1 y2 y3 z0 z1 z2 z3 z4 z5 z6 hlet
    go_wp2_with fail
    go_roundw
    case rel => exact ⟨j + 1, by omega, by go_num, by rw [HE.out]; exact HN.out⟩
    case measure => simp [intOf]; omega
   | V =>
    replace hlet : ((s[j]'hlt).toNat : Int) = 86 := hlet
    go_wp2_with fail
    refine wp_region_still_tail 6 (by kernel_rfl) (by kernel_rfl) ?_
    change wpStill _ _ wr.drew (fun a' => wpList _ _ _ _ a' wr.drew) _ _
    simp only [List.take_succ_cons, List.take_zero, List.drop_succ_cons, List.drop_zero]
    repeat still_step
    refine wpStill_nil ?_
    go_wp2_with fail
    have hct : Calls Tryz.prog 161 #[.pointer (some ⟨g, 0, none⟩), .int .u8 86, .agg #[.int .i64 f.f0, .int .i64 f.f1, .int .i64 f.f2, .slice FA f.f3.length fc], .agg #[.int .i64 x.f0, .int .i64 x.f1, .int .i64 x.f2, .int .i64 x.f3, .int .i64 x.f4, .slice A5 x.f5.length c5, .slice A6 x.f6.length c6]] wr.drew (sticks wr.drew g (.int .i64 G) (.slice A fs.length c) l' (letE G fs f x .V e)) := by
     by_cases he : e = 0
     ·subst he
      rw [letE_list (l := x.f5) (m := f.f1) rfl]
      exact listRV_ok g _ _ l' f FA f.f3.length fc x A5 c5 A6 _ c6 f.f1 wB wr.drew HL.out.wk (HL.out.kp.below HBB.out (Nat.le_refl _) hg |> fun h => pw_below_drewN h 1) hg H5.out l5 (fun W hW => wantV_any g f _ x _ _ _ _ _ _ W ⟨_, _, _, rfl⟩)
     ·rw [letE_not he]
      exact listR_not g _ _ l' e 86 f _ x _ _ _ _ _ _ wr.drew HL.out.wk he ⟨_, _, _, rfl⟩
    refine hct.mono ?_
    rintro r w3 ⟨rfl, hk3, hw3⟩
    have HN := Lib.hid (HL.out.step hg0 1 hk3 hw3)
    clear hk3 hw3 hct y0 y1 y2 y3 z0 z1 z2 z3 z4 z5 z6 hlet
    go_wp2_with fail
    go_roundw
    case rel => exact ⟨j + 1, by omega, by go_num, by rw [HE.out]; exact HN.out⟩
    case measure => simp [intOf]; omega
  ·obtain rfl : j = s.size := by omega
   have HE := Lib.hid hs3
   go_wp2_with fail
   go_end0
   refine ⟨rfl, HL.out.kp, ?_⟩
   have hwk := HL.out.wk
   rcases HQ.out with ⟨he, hq⟩ | ⟨he, ho, hq⟩
   ·rw [hq]
    rw [insE_err _ _ _ _ he] at hwk
    exact ⟨l', hwk⟩
   ·rw [he, HS.out, partStr_size _ ho] at hwk
    by_cases h0 : insE G fs f x 0 (table.getD x.f0.toNat []).length = 0
    ·rw [if_pos h0] at hq
     rw [h0] at hwk
     rw [hq]
     exact hwk
    ·rw [if_neg h0] at hq
     rw [hq]
     exact ⟨l', hwk⟩
theorem instrQ_is (G : Int) (fs : List Fun) (f : Fun) (l : Int) (k : Nat) : instrQ G fs f l k = insQ G fs f l (f.f3.getD k zI) (decide (k + 1 = f.f3.length)) := rfl
theorem opQ_err_ne {l err : Int} {x : Ins} {last : Bool} (h : opQ l x last = .error err) : err ≠ 0 := by
 unfold opQ at h
 repeat' split at h
 all_goals first | (injection h with h; omega) | cases h
theorem insQ_err_ne {G : Int} {fs : List Fun} {f : Fun} {l err : Int} {x : Ins} {last : Bool} (h : insQ G fs f l x last = .error err) : err ≠ 0 := by
 unfold insQ at h
 cases hq : opQ l x last with
 | ok m =>
  rw [hq] at h
  dsimp only at h
  split at h
  ·cases h
  ·rename_i e hp
   injection h with h
   subst h
   exact runTo_err_at (· ≠ 0) (fun _ _ _ h => askQ_err_ne h) _ hp
 | error e =>
  rw [hq] at h
  injection h with h
  subst h
  exact opQ_err_ne hq
theorem headQ_err_ne {l n err : Int} {f : Fun} (h : headQ l f n = .error err) : err ≠ 0 := by
 by_cases h1 : 0 ≤ f.f0 ∧ f.f0 ≤ (if f.f2 < 8 then f.f2 else 8) ∧ 0 ≤ f.f1 ∧ f.f1 ≤ 4 ∧ f.f2 ≤ 255 ∧ n ≤ 4096
 ·rw [headQ, if_pos h1] at h
  by_cases h2 : 1 ≤ n
  ·rw [if_pos h2] at h
   by_cases h3 : l + f.f2 < 1048576
   ·rw [if_pos h3] at h; cases h
   ·rw [if_neg h3] at h; injection h with h; omega
  ·rw [if_neg h2] at h; injection h with h; omega
 ·rw [headQ, if_neg h1] at h; injection h with h; omega
theorem chk_G {G : Int} {fs : List Fun} (hG : ¬ (0 ≤ G ∧ G ≤ 16)) : chk G fs = 18 := by rw [chk, chkQ, if_neg hG]
theorem chk_F {G : Int} {fs : List Fun} (hG : 0 ≤ G ∧ G ≤ 16) (hF : ¬ (1 ≤ (fs.length : Int) ∧ (fs.length : Int) ≤ 65535)) : chk G fs = 20 := by rw [chk, chkQ, if_pos hG, if_neg hF]
end Go.Proofs.YtcbcacbbnojdjaaGreatDoor
