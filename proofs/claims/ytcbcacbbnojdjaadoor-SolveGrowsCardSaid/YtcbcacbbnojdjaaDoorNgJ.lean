/-
  Part J of what the law's proof needs: walks of the program's functions and the plain laws of what they tell. No condition.
-/
import Derived.Test.YtcbcacbbnojdjaaDoorNgI
import Derived.Test.YtcbcacbbnojdjaaDoorNgG
namespace Go.Proofs.YtcbcacbbnojdjaaDoor
open Go.RowKit Go.Proofs.YtcbcacbbnojdjaaDoorW.PrintWords Go.Proofs.YtcbcacbbnojdjaaDoor.PSolveMonotone
set_option linter.unusedVariables false
set_option linter.unusedSimpArgs false
theorem numc_ask (v : Int) : need (decide (1 ≤ v ∧ v < 9)) 17 = need (decide (1 ≤ v ∧ v ≤ 8)) 17 := by
  rw [show decide (1 ≤ v ∧ v < 9) = decide (1 ≤ v ∧ v ≤ 8) by rw [Bool.eq_iff_iff]; simp; omega]
theorem letE_c {G : Int} {fs : List Fun} {f : Fun} {x : Ins} {e : Int} : letE G fs f x .c e = stick e (decide (1 ≤ x.f4 ∧ x.f4 ≤ 8)) 17 := letE_need (numc_ask x.f4)
theorem letter_at {i : Int} {s : ByteArray} (hs : s = partStr i) (h : 1 ≤ i ∧ i < 18) {j : Nat} (hj : j < s.size) : ((s[j]'hj).toNat : Int) = (((table.getD i.toNat []).getD j .i).ch.toNat : Int) := by
  subst hs
  rw [← partStr_letter i h j (by rw [← partStr_size i h]; exact hj)]
  exact bt_at _ (j : Int) (by simpa using hj)
set_option maxRecDepth 100000 in
set_option maxHeartbeats 12800000 in
theorem instrR_any (g : Nat) (G : Int) (A : Option Addr) (c : Nat) (fs : List Fun) (l : Int) (f : Fun) (FA : Option Addr) (fc : Nat) (x : Ins) (A5 : Option Addr) (c5 : Nat) (A6 : Option Addr) (c6 : Nat) (last : Bool) (wB w : World) (h : WalkAt w g (.int .i64 G) (.slice A fs.length c) l 0) (hl : 0 ≤ l ∧ l < 1048576)
    (hB : Below wB.heap.size wB w) (hg : wB.heap.size ≤ g) (hC : k45.C wB A fs.length fs) (h5 : (Kd.int .i64).C wB A5 x.f5.length x.f5) (h6 : (Kd.int .i64).C wB A6 x.f6.length x.f6) (l5 : x.f5.length ≤ 2147483647) (l6 : x.f6.length ≤ 2147483647) :
    Calls Tryd.prog 32 #[.pointer (some ⟨g, 0, none⟩), .agg #[.int .i64 f.f0, .int .i64 f.f1, .int .i64 f.f2, .slice FA f.f3.length fc], .agg #[.int .i64 x.f0, .int .i64 x.f1, .int .i64 x.f2, .int .i64 x.f3, .int .i64 x.f4, .slice A5 x.f5.length c5, .slice A6 x.f6.length c6], .bool last] w (locsR w g (.int .i64 G) (.slice A fs.length c) (insQ G fs f l x last)) := by
  have hg0 : g < w.heap.size := blk_lt h
  have HBB := Lib.hid hB
  have HC := Lib.hid hC
  have H5 := Lib.hid h5
  have H6 := Lib.hid h6
  obtain ⟨q, hq⟩ : ∃ q, q = insQ G fs f l x last := ⟨_, rfl⟩
  rw [← hq]
  have HQ := Lib.hid hq
  clear hB hC h5 h6 hq
  go_enter Tryd.func32, Tryd.ntmps32
  go_upto_region 1 with (fail)
  have hb0 := below1 w (.cells #[.int .i64 f.f0, .int .i64 f.f1, .int .i64 f.f2, .slice FA f.f3.length fc] 45)
  have hf := alloc_new w (.cells #[.int .i64 f.f0, .int .i64 f.f1, .int .i64 f.f2, .slice FA f.f3.length fc] 45)
  have hx := alloc_new (w.alloc (.cells #[.int .i64 f.f0, .int .i64 f.f1, .int .i64 f.f2, .slice FA f.f3.length fc] 45)) (.cells #[.int .i64 x.f0, .int .i64 x.f1, .int .i64 x.f2, .int .i64 x.f3, .int .i64 x.f4, .slice A5 x.f5.length c5, .slice A6 x.f6.length c6] 52)
  have hb1 := below1 (w.alloc (.cells #[.int .i64 f.f0, .int .i64 f.f1, .int .i64 f.f2, .slice FA f.f3.length fc] 45)) (.cells #[.int .i64 x.f0, .int .i64 x.f1, .int .i64 x.f2, .int .i64 x.f3, .int .i64 x.f4, .slice A5 x.f5.length c5, .slice A6 x.f6.length c6] 52)
  have hf2 := (hb1.block _ (blk_lt hf)).trans hf
  rw [show (w.alloc (.cells #[.int .i64 f.f0, .int .i64 f.f1, .int .i64 f.f2, .slice FA f.f3.length fc] 45)).heap.size = w.heap.size + 1 by simp] at hx
  have hb := hb0.trans (hb1.mono hb0.size)
  clear hb0 hb1 hf
  generalize World.alloc (World.alloc _ _) _ = W at hx hb hf2 ⊢
  have hw := walk_below h hb
  have z0 := blk_cell hx 0
  have z1 := blk_cell hx 1
  have z2 := blk_cell hx 2
  have z3 := blk_cell hx 3
  have z4 := blk_cell hx 4
  have z5 := blk_cell hx 5
  have z6 := blk_cell hx 6
  simp only [List.getElem?_toArray, List.getElem?_cons_succ, List.getElem?_cons_zero] at z0 z1 z2 z3 z4 z5 z6
  have HF := Lib.hid hf2
  have HX := Lib.hid hx
  have HW := Lib.hid hw
  have HB := Lib.hid hb
  clear hx hb hf2 hw h
  go_wp2_with fail
  refine (opR_any g _ _ l x A5 c5 A6 c6 last W HW.out hl).mono ?_
  rintro e w1 ⟨rfl, hk1, hm⟩
  have hne : w.heap.size ≠ g := by omega
  have hne1 : w.heap.size + 1 ≠ g := by omega
  have HK1 := Lib.hid ((Kept.of_below HB.out).trans hk1)
  have HF1 := Lib.hid ((hk1.block _ (blk_lt HF.out) hne).trans HF.out)
  have HX1 := Lib.hid ((hk1.block _ (blk_lt HX.out) hne1).trans HX.out)
  have hM : ∃ l' e0, WalkAt w1 g (.int .i64 G) (.slice A fs.length c) l' e0 ∧ ((e0 ≠ 0 ∧ q = .error e0) ∨ (e0 = 0 ∧ (1 ≤ x.f0 ∧ x.f0 < 18) ∧ q = (if insE G fs f x 0 (table.getD x.f0.toNat []).length = 0 then .ok l' else .error (insE G fs f x 0 (table.getD x.f0.toNat []).length)))) := by
    cases hq : opQ l x last with
    | ok m =>
      rw [hq] at hm
      exact ⟨m, 0, hm, .inr ⟨rfl, ⟨(opQ_range hq hl).1, (opQ_range hq hl).2.1⟩, HQ.out.trans (insQ_ok hq)⟩⟩
    | error err =>
      rw [hq] at hm
      obtain ⟨l', hm⟩ := hm
      exact ⟨l', err, hm, .inl ⟨(opE_err hq hl).2, by rw [HQ.out, insQ, hq]⟩⟩
  clear hk1 hm z0 z1 z2 z3 z4 z5 z6 HW HB HF HX HQ
  obtain ⟨l', e0, hw1, hq⟩ := hM
  have HQ := Lib.hid hq
  have HW1 := Lib.hid hw1
  clear hq hw1
  have z0 := blk_cell HX1.out 0
  simp only [List.getElem?_toArray, List.getElem?_cons_zero] at z0
  have hs3 := partStr_short x.f0
  have HP := Lib.hid (parts_any x.f0 w1)
  obtain ⟨s, hs⟩ : ∃ s, s = partStr x.f0 := ⟨_, rfl⟩
  rw [← hs] at hs3 HP
  have HS := Lib.hid hs
  clear hs
  have hu := Tryd.underlying9
  go_wp2_with fail
  refine HP.out.mono ?_
  rintro e w2 ⟨rfl, hb2⟩
  have HL := Lib.hid (show LetAt g (.int .i64 G) (.slice A fs.length c) l' (insE G fs f x e0 0) f FA fc x A5 c5 A6 c6 w w2 from ⟨(insE_zero G fs f x e0).symm ▸ walk_below HW1.out hb2, HK1.out.trans (Kept.of_below hb2), (hb2.block _ (blk_lt HF1.out)).trans HF1.out, (hb2.block _ (blk_lt HX1.out)).trans HX1.out⟩)
  clear hb2 z0 HW1 HK1 HF1 HX1 HP
  go_wp2_with fail
  go_loopw [9] (fun i wr => ∃ j : Nat, j ≤ s.size ∧ i = .int .i64 j ∧ LetAt g (.int .i64 G) (.slice A fs.length c) l' (insE G fs f x e0 j) f FA fc x A5 c5 A6 c6 w wr) (fun i _ => s.size - (intOf i).toNat)
  case atStart => exact ⟨0, by omega, rfl, HL.out⟩
  case round =>
    clear HL
    obtain ⟨j, hj, rfl, hL⟩ := hrel
    have HL := Lib.hid hL
    clear hL
    by_cases hlt : j < s.size
    · have ho : 1 ≤ x.f0 ∧ x.f0 < 18 := by
        apply Classical.byContradiction
        intro ho
        rw [HS.out, partStr_none _ ho] at hlt
        exact absurd hlt (by show ¬ j < 0; omega)
      have hlet := letter_at HS.out ho hlt
      have hjl : j < (table.getD x.f0.toNat []).length := by rw [← partStr_size _ ho, ← HS.out]; exact hlt
      have HE := Lib.hid (insE_succ G fs f x e0 j)
      have HCL := Lib.hid (fun h hp => insE_call (G := G) (fs := fs) (f := f) (x := x) (e := e0) (j := j) (by omega) hjl h hp)
      generalize (table.getD x.f0.toNat []).getD j .i = p at hlet HE HCL
      obtain ⟨e, he⟩ : ∃ e, insE G fs f x e0 j = e := ⟨_, rfl⟩
      rw [he] at HL HE HCL
      clear he ho hjl
      have y0 := blk_cell HL.out.fn 0
      have y1 := blk_cell HL.out.fn 1
      have y2 := blk_cell HL.out.fn 2
      have y3 := blk_cell HL.out.fn 3
      have z0 := blk_cell HL.out.is 0
      have z1 := blk_cell HL.out.is 1
      have z2 := blk_cell HL.out.is 2
      have z3 := blk_cell HL.out.is 3
      have z4 := blk_cell HL.out.is 4
      have z5 := blk_cell HL.out.is 5
      have z6 := blk_cell HL.out.is 6
      simp only [List.getElem?_toArray, List.getElem?_cons_succ, List.getElem?_cons_zero] at y0 y1 y2 y3 z0 z1 z2 z3 z4 z5 z6
      cases p with
      | R =>
        replace hlet : ((s[j]'hlt).toNat : Int) = 82 := hlet
        go_wp2_with fail
        refine (vaR_any g _ _ l' e f FA f.f3.length fc x.f1 wr HL.out.wk).mono ?_
        rintro r w3 ⟨rfl, hk3, hw3⟩
        have HN := Lib.hid (HL.out.step hg0 0 hk3 hw3)
        clear hk3 hw3 y0 y1 y2 y3 z0 z1 z2 z3 z4 z5 z6 hlet
        go_wp2_with fail
        go_roundw
        case rel => exact ⟨j + 1, by omega, by go_num, by rw [HE.out, letE_need (b := varOk f x.f1) (er := 13) rfl]; exact HN.out⟩
        case measure => simp [intOf]; omega
      | S =>
        replace hlet : ((s[j]'hlt).toNat : Int) = 83 := hlet
        go_wp2_with fail
        refine (vaR_any g _ _ l' e f FA f.f3.length fc x.f2 wr HL.out.wk).mono ?_
        rintro r w3 ⟨rfl, hk3, hw3⟩
        have HN := Lib.hid (HL.out.step hg0 0 hk3 hw3)
        clear hk3 hw3 y0 y1 y2 y3 z0 z1 z2 z3 z4 z5 z6 hlet
        go_wp2_with fail
        go_roundw
        case rel => exact ⟨j + 1, by omega, by go_num, by rw [HE.out, letE_need (b := varOk f x.f2) (er := 13) rfl]; exact HN.out⟩
        case measure => simp [intOf]; omega
      | T =>
        replace hlet : ((s[j]'hlt).toNat : Int) = 84 := hlet
        go_wp2_with fail
        refine (vaR_any g _ _ l' e f FA f.f3.length fc x.f3 wr HL.out.wk).mono ?_
        rintro r w3 ⟨rfl, hk3, hw3⟩
        have HN := Lib.hid (HL.out.step hg0 0 hk3 hw3)
        clear hk3 hw3 y0 y1 y2 y3 z0 z1 z2 z3 z4 z5 z6 hlet
        go_wp2_with fail
        go_roundw
        case rel => exact ⟨j + 1, by omega, by go_num, by rw [HE.out, letE_need (b := varOk f x.f3) (er := 13) rfl]; exact HN.out⟩
        case measure => simp [intOf]; omega
      | i =>
        replace hlet : ((s[j]'hlt).toNat : Int) = 105 := hlet
        go_wp2_with fail
        refine wp_region_still_tail 9 (by kernel_rfl) (by kernel_rfl) ?_
        change wpStill _ _ wr.drew (fun a' => wpList _ _ _ _ a' wr.drew) _ _
        simp only [List.take_succ_cons, List.take_zero, List.drop_succ_cons, List.drop_zero]
        repeat still_step
        refine wpStill_nil ?_
        go_wp2_with fail
        refine (numi_any g _ _ l' e x.f4 f.f3.length wr.drew HL.out.wk).mono ?_
        rintro r w3 ⟨rfl, hk3, hw3⟩
        have HN := Lib.hid (HL.out.step hg0 1 hk3 hw3)
        clear hk3 hw3 y0 y1 y2 y3 z0 z1 z2 z3 z4 z5 z6 hlet
        go_wp2_with fail
        go_roundw
        case rel => exact ⟨j + 1, by omega, by go_num, by rw [HE.out, letE_i]; exact HN.out⟩
        case measure => simp [intOf]; omega
      | c =>
        replace hlet : ((s[j]'hlt).toNat : Int) = 99 := hlet
        go_wp2_with fail
        refine wp_region_still_tail 9 (by kernel_rfl) (by kernel_rfl) ?_
        change wpStill _ _ wr.drew (fun a' => wpList _ _ _ _ a' wr.drew) _ _
        simp only [List.take_succ_cons, List.take_zero, List.drop_succ_cons, List.drop_zero]
        repeat still_step
        refine wpStill_nil ?_
        go_wp2_with fail
        refine (numc_any g _ _ l' e x.f4 f.f3.length wr.drew HL.out.wk).mono ?_
        rintro r w3 ⟨rfl, hk3, hw3⟩
        have HN := Lib.hid (HL.out.step hg0 1 hk3 hw3)
        clear hk3 hw3 y0 y1 y2 y3 z0 z1 z2 z3 z4 z5 z6 hlet
        go_wp2_with fail
        go_roundw
        case rel => exact ⟨j + 1, by omega, by go_num, by rw [HE.out, letE_c]; exact HN.out⟩
        case measure => simp [intOf]; omega
      | f =>
        replace hlet : ((s[j]'hlt).toNat : Int) = 102 := hlet
        go_wp2_with fail
        refine wp_region_still_tail 9 (by kernel_rfl) (by kernel_rfl) ?_
        change wpStill _ _ wr.drew (fun a' => wpList _ _ _ _ a' wr.drew) _ _
        simp only [List.take_succ_cons, List.take_zero, List.drop_succ_cons, List.drop_zero]
        repeat still_step
        refine wpStill_nil ?_
        go_wp2_with fail
        refine (numf_any g _ _ l' e x.f4 f.f3.length wr.drew HL.out.wk).mono ?_
        rintro r w3 ⟨rfl, hk3, hw3⟩
        have HN := Lib.hid (HL.out.step hg0 1 hk3 hw3)
        clear hk3 hw3 y0 y1 y2 y3 z0 z1 z2 z3 z4 z5 z6 hlet
        go_wp2_with fail
        go_roundw
        case rel => exact ⟨j + 1, by omega, by go_num, by rw [HE.out, letE_need rfl]; exact HN.out⟩
        case measure => simp [intOf]; omega
      | g =>
        replace hlet : ((s[j]'hlt).toNat : Int) = 103 := hlet
        go_wp2_with fail
        refine wp_region_still_tail 9 (by kernel_rfl) (by kernel_rfl) ?_
        change wpStill _ _ wr.drew (fun a' => wpList _ _ _ _ a' wr.drew) _ _
        simp only [List.take_succ_cons, List.take_zero, List.drop_succ_cons, List.drop_zero]
        repeat still_step
        refine wpStill_nil ?_
        go_wp2_with fail
        refine (numg_any g G A fs.length c l' e x.f4 f.f3.length wr.drew HL.out.wk).mono ?_
        rintro r w3 ⟨rfl, hk3, hw3⟩
        have HN := Lib.hid (HL.out.step hg0 1 hk3 hw3)
        clear hk3 hw3 y0 y1 y2 y3 z0 z1 z2 z3 z4 z5 z6 hlet
        go_wp2_with fail
        go_roundw
        case rel => exact ⟨j + 1, by omega, by go_num, by rw [HE.out, letE_need rfl]; exact HN.out⟩
        case measure => simp [intOf]; omega
      | F =>
        replace hlet : ((s[j]'hlt).toNat : Int) = 70 := hlet
        go_wp2_with fail
        refine wp_region_still_tail 9 (by kernel_rfl) (by kernel_rfl) ?_
        change wpStill _ _ wr.drew (fun a' => wpList _ _ _ _ a' wr.drew) _ _
        simp only [List.take_succ_cons, List.take_zero, List.drop_succ_cons, List.drop_zero]
        repeat still_step
        refine wpStill_nil ?_
        go_wp2_with fail
        refine (numF_any g G A fs.length c l' e x.f4 f.f3.length wr.drew HL.out.wk).mono ?_
        rintro r w3 ⟨rfl, hk3, hw3⟩
        have HN := Lib.hid (HL.out.step hg0 1 hk3 hw3)
        clear hk3 hw3 y0 y1 y2 y3 z0 z1 z2 z3 z4 z5 z6 hlet
        go_wp2_with fail
        go_roundw
        case rel => exact ⟨j + 1, by omega, by go_num, by rw [HE.out, letE_need rfl]; exact HN.out⟩
        case measure => simp [intOf]; omega
      | J =>
        replace hlet : ((s[j]'hlt).toNat : Int) = 74 := hlet
        go_wp2_with fail
        refine wp_region_still_tail 9 (by kernel_rfl) (by kernel_rfl) ?_
        change wpStill _ _ wr.drew (fun a' => wpList _ _ _ _ a' wr.drew) _ _
        simp only [List.take_succ_cons, List.take_zero, List.drop_succ_cons, List.drop_zero]
        repeat still_step
        refine wpStill_nil ?_
        go_wp2_with fail
        refine (numJ_any g _ _ l' e x.f4 f.f3.length wr.drew HL.out.wk).mono ?_
        rintro r w3 ⟨rfl, hk3, hw3⟩
        have HN := Lib.hid (HL.out.step hg0 1 hk3 hw3)
        clear hk3 hw3 y0 y1 y2 y3 z0 z1 z2 z3 z4 z5 z6 hlet
        go_wp2_with fail
        go_roundw
        case rel => exact ⟨j + 1, by omega, by go_num, by rw [HE.out, letE_need rfl]; exact HN.out⟩
        case measure => simp [intOf]; omega
      | A =>
        replace hlet : ((s[j]'hlt).toNat : Int) = 65 := hlet
        go_wp2_with fail
        refine wp_region_still_tail 6 (by kernel_rfl) (by kernel_rfl) ?_
        change wpStill _ _ wr.drew (fun a' => wpList _ _ _ _ a' wr.drew) _ _
        simp only [List.take_succ_cons, List.take_zero, List.drop_succ_cons, List.drop_zero]
        repeat still_step
        refine wpStill_nil ?_
        go_wp2_with fail
        have hct : Calls Tryd.prog 48 #[.pointer (some ⟨g, 0, none⟩), .int .u8 65, .agg #[.int .i64 f.f0, .int .i64 f.f1, .int .i64 f.f2, .slice FA f.f3.length fc], .agg #[.int .i64 x.f0, .int .i64 x.f1, .int .i64 x.f2, .int .i64 x.f3, .int .i64 x.f4, .slice A5 x.f5.length c5, .slice A6 x.f6.length c6]] wr.drew (sticks wr.drew g (.int .i64 G) (.slice A fs.length c) l' (letE G fs f x .A e)) := by
          by_cases he : e = 0
          · subst he
            have hn := HCL.out rfl (by simp); rw [letE_list (l := x.f5) (m := (fs.getD x.f4.toNat zF).f0) rfl]
            exact listRA_ok g _ _ l' f FA f.f3.length fc x A5 c5 A6 _ c6 (fs.getD x.f4.toNat zF).f0 wB wr.drew HL.out.wk (HL.out.kp.below HBB.out (Nat.le_refl _) hg |> fun h => pw_below_drewN h 1) hg H5.out l5 (fun W hW => wantA_any g G A c fs _ _ f _ x _ _ _ _ _ _ W (walk_below (w := wr.drew) HL.out.wk hW) ⟨_, _, _, rfl⟩ (Kd.C_below HC.out (HL.out.kp.below HBB.out (Nat.le_refl _) hg |> fun h => h.trans ((below_drew (Below.refl _ _)).trans (hW.mono h.size)))) hn.1 hn.2)
          · rw [letE_not he]
            exact listR_not g _ _ l' e 65 f _ x _ _ _ _ _ _ wr.drew HL.out.wk he ⟨_, _, _, rfl⟩
        refine hct.mono ?_
        rintro r w3 ⟨rfl, hk3, hw3⟩
        have HN := Lib.hid (HL.out.step hg0 1 hk3 hw3)
        clear hk3 hw3 hct y0 y1 y2 y3 z0 z1 z2 z3 z4 z5 z6 hlet
        go_wp2_with fail
        go_roundw
        case rel => exact ⟨j + 1, by omega, by go_num, by rw [HE.out]; exact HN.out⟩
        case measure => simp [intOf]; omega
      | B =>
        replace hlet : ((s[j]'hlt).toNat : Int) = 66 := hlet
        go_wp2_with fail
        refine wp_region_still_tail 6 (by kernel_rfl) (by kernel_rfl) ?_
        change wpStill _ _ wr.drew (fun a' => wpList _ _ _ _ a' wr.drew) _ _
        simp only [List.take_succ_cons, List.take_zero, List.drop_succ_cons, List.drop_zero]
        repeat still_step
        refine wpStill_nil ?_
        go_wp2_with fail
        have hct : Calls Tryd.prog 48 #[.pointer (some ⟨g, 0, none⟩), .int .u8 66, .agg #[.int .i64 f.f0, .int .i64 f.f1, .int .i64 f.f2, .slice FA f.f3.length fc], .agg #[.int .i64 x.f0, .int .i64 x.f1, .int .i64 x.f2, .int .i64 x.f3, .int .i64 x.f4, .slice A5 x.f5.length c5, .slice A6 x.f6.length c6]] wr.drew (sticks wr.drew g (.int .i64 G) (.slice A fs.length c) l' (letE G fs f x .B e)) := by
          by_cases he : e = 0
          · subst he
            have hn := HCL.out rfl (by simp); rw [letE_list (l := x.f6) (m := (fs.getD x.f4.toNat zF).f1) rfl]
            exact listRB_ok g _ _ l' f FA f.f3.length fc x A6 c6 A5 _ c5 (fs.getD x.f4.toNat zF).f1 wB wr.drew HL.out.wk (HL.out.kp.below HBB.out (Nat.le_refl _) hg |> fun h => pw_below_drewN h 1) hg H6.out l6 (fun W hW => wantB_any g G A c fs _ _ f _ x _ _ _ _ _ _ W (walk_below (w := wr.drew) HL.out.wk hW) ⟨_, _, _, rfl⟩ (Kd.C_below HC.out (HL.out.kp.below HBB.out (Nat.le_refl _) hg |> fun h => h.trans ((below_drew (Below.refl _ _)).trans (hW.mono h.size)))) hn.1 hn.2)
          · rw [letE_not he]
            exact listR_not g _ _ l' e 66 f _ x _ _ _ _ _ _ wr.drew HL.out.wk he ⟨_, _, _, rfl⟩
        refine hct.mono ?_
        rintro r w3 ⟨rfl, hk3, hw3⟩
        have HN := Lib.hid (HL.out.step hg0 1 hk3 hw3)
        clear hk3 hw3 hct y0 y1 y2 y3 z0 z1 z2 z3 z4 z5 z6 hlet
        go_wp2_with fail
        go_roundw
        case rel => exact ⟨j + 1, by omega, by go_num, by rw [HE.out]; exact HN.out⟩
        case measure => simp [intOf]; omega
      | V =>
        replace hlet : ((s[j]'hlt).toNat : Int) = 86 := hlet
        go_wp2_with fail
        refine wp_region_still_tail 6 (by kernel_rfl) (by kernel_rfl) ?_
        change wpStill _ _ wr.drew (fun a' => wpList _ _ _ _ a' wr.drew) _ _
        simp only [List.take_succ_cons, List.take_zero, List.drop_succ_cons, List.drop_zero]
        repeat still_step
        refine wpStill_nil ?_
        go_wp2_with fail
        have hct : Calls Tryd.prog 48 #[.pointer (some ⟨g, 0, none⟩), .int .u8 86, .agg #[.int .i64 f.f0, .int .i64 f.f1, .int .i64 f.f2, .slice FA f.f3.length fc], .agg #[.int .i64 x.f0, .int .i64 x.f1, .int .i64 x.f2, .int .i64 x.f3, .int .i64 x.f4, .slice A5 x.f5.length c5, .slice A6 x.f6.length c6]] wr.drew (sticks wr.drew g (.int .i64 G) (.slice A fs.length c) l' (letE G fs f x .V e)) := by
          by_cases he : e = 0
          · subst he
            rw [letE_list (l := x.f5) (m := f.f1) rfl]
            exact listRV_ok g _ _ l' f FA f.f3.length fc x A5 c5 A6 _ c6 f.f1 wB wr.drew HL.out.wk (HL.out.kp.below HBB.out (Nat.le_refl _) hg |> fun h => pw_below_drewN h 1) hg H5.out l5 (fun W hW => wantV_any g f _ x _ _ _ _ _ _ W ⟨_, _, _, rfl⟩)
          · rw [letE_not he]
            exact listR_not g _ _ l' e 86 f _ x _ _ _ _ _ _ wr.drew HL.out.wk he ⟨_, _, _, rfl⟩
        refine hct.mono ?_
        rintro r w3 ⟨rfl, hk3, hw3⟩
        have HN := Lib.hid (HL.out.step hg0 1 hk3 hw3)
        clear hk3 hw3 hct y0 y1 y2 y3 z0 z1 z2 z3 z4 z5 z6 hlet
        go_wp2_with fail
        go_roundw
        case rel => exact ⟨j + 1, by omega, by go_num, by rw [HE.out]; exact HN.out⟩
        case measure => simp [intOf]; omega
    · obtain rfl : j = s.size := by omega
      have HE := Lib.hid hs3
      go_wp2_with fail
      go_end0
      refine ⟨rfl, HL.out.kp, ?_⟩
      have hwk := HL.out.wk
      rcases HQ.out with ⟨he, hq⟩ | ⟨he, ho, hq⟩
      · rw [hq]
        rw [insE_err _ _ _ _ he] at hwk
        exact ⟨l', hwk⟩
      · rw [he, HS.out, partStr_size _ ho] at hwk
        by_cases h0 : insE G fs f x 0 (table.getD x.f0.toNat []).length = 0
        · rw [if_pos h0] at hq
          rw [h0] at hwk
          rw [hq]
          exact hwk
        · rw [if_neg h0] at hq
          rw [hq]
          exact ⟨l', hwk⟩
end Go.Proofs.YtcbcacbbnojdjaaDoor
namespace Go.Proofs.YtcbcacbbnojdjaaDoor
open Go.RowKit Go.Proofs.YtcbcacbbnojdjaaDoorW.PrintWords Go.Proofs.YtcbcacbbnojdjaaDoor.PSolveMonotone
set_option linter.unusedVariables false
set_option linter.unusedSimpArgs false
theorem instrQ_is (G : Int) (fs : List Fun) (f : Fun) (l : Int) (k : Nat) : instrQ G fs f l k = insQ G fs f l (f.f3.getD k zI) (decide (k + 1 = f.f3.length)) := rfl
theorem insQ_range {G : Int} {fs : List Fun} {f : Fun} {l l' : Int} {x : Ins} {last : Bool} (h : insQ G fs f l x last = .ok l') (hl : 0 ≤ l ∧ l < 1048576) : 0 ≤ l' ∧ l' < 1048576 := by
  unfold insQ at h
  cases hq : opQ l x last with
  | ok m =>
    rw [hq] at h
    dsimp only at h
    split at h
    · injection h with h
      subst h
      exact ⟨(opQ_range hq hl).2.2.1, (opQ_range hq hl).2.2.2⟩
    · cases h
  | error e => rw [hq] at h; cases h
theorem opQ_err_ne {l err : Int} {x : Ins} {last : Bool} (h : opQ l x last = .error err) : err ≠ 0 := by
  unfold opQ at h
  repeat' split at h
  all_goals first | (injection h with h; omega) | cases h
theorem insQ_err_ne {G : Int} {fs : List Fun} {f : Fun} {l err : Int} {x : Ins} {last : Bool} (h : insQ G fs f l x last = .error err) : err ≠ 0 := by
  unfold insQ at h
  cases hq : opQ l x last with
  | ok m =>
    rw [hq] at h
    dsimp only at h
    split at h
    · cases h
    · rename_i e hp
      injection h with h
      subst h
      exact runTo_err_at (· ≠ 0) (fun _ _ _ h => askQ_err_ne h) _ hp
  | error e =>
    rw [hq] at h
    injection h with h
    subst h
    exact opQ_err_ne hq
theorem headQ_err_ne {l n err : Int} {f : Fun} (h : headQ l f n = .error err) : err ≠ 0 := by
  by_cases h1 : 0 ≤ f.f0 ∧ f.f0 ≤ (if f.f2 < 8 then f.f2 else 8) ∧ 0 ≤ f.f1 ∧ f.f1 ≤ 4 ∧ f.f2 ≤ 255 ∧ n ≤ 4096
  · rw [headQ, if_pos h1] at h
    by_cases h2 : 1 ≤ n
    · rw [if_pos h2] at h
      by_cases h3 : l + f.f2 < 1048576
      · rw [if_pos h3] at h; cases h
      · rw [if_neg h3] at h; injection h with h; omega
    · rw [if_neg h2] at h; injection h with h; omega
  · rw [headQ, if_neg h1] at h; injection h with h; omega
theorem chk_G {G : Int} {fs : List Fun} (hG : ¬ (0 ≤ G ∧ G ≤ 16)) : chk G fs = 18 := by rw [chk, chkQ, if_neg hG]
theorem chk_F {G : Int} {fs : List Fun} (hG : 0 ≤ G ∧ G ≤ 16) (hF : ¬ (1 ≤ (fs.length : Int) ∧ (fs.length : Int) ≤ 65535)) : chk G fs = 20 := by rw [chk, chkQ, if_pos hG, if_neg hF]
theorem codeQ_ok {G : Int} {fs : List Fun} {f : Fun} {l1 l : Int} {j : Nat} (hf : f = fs.getD j zF) (h : runTo (instrQ G fs f) l1 f.f3.length = .ok l) : codeQ G fs l1 j = .ok l := by
  rw [codeQ, ← hf]
  exact h
/-- Something was wrong: nothing more is asked. -/
structure DeadAt (w W : World) (g : Nat) (v0 v1 : Value) (ez : Int) (wr : World) : Prop where
  wk : ∃ l, WalkAt wr g v0 v1 l ez
  kp : Kept g W wr
  bl : Below w.heap.size w wr
/-- Nothing was wrong yet. -/
def LiveAt (w W : World) (g : Nat) (v0 v1 : Value) (r : Except Int Int) (wr : World) : Prop :=
  ∃ l, 0 ≤ l ∧ l < 1048576 ∧ r = .ok l ∧ WalkAt wr g v0 v1 l 0 ∧ Kept g W wr ∧ Below w.heap.size w wr
set_option maxRecDepth 100000 in
set_option maxHeartbeats 12800000 in
theorem checkR_any (G : Int) (A : Option Addr) (c : Nat) (fs : List Fun) (w : World) (hC : k45.C w A fs.length fs) (hlen : fs.length ≤ 2147483647) (hcode : ∀ f ∈ fs, f.f3.length ≤ 2147483647 ∧ ∀ x ∈ f.f3, x.f5.length ≤ 2147483647 ∧ x.f6.length ≤ 2147483647) :
    Calls Tryd.prog 14 #[.agg #[.int .i64 G, .slice A fs.length c]] w fun e w' => e = .returned (.int .i64 (chk G fs)) ∧ Below w.heap.size w w' := by
  have HC := Lib.hid hC
  have HCODE := Lib.hid hcode
  clear hC hcode
  go_enter Tryd.func14, Tryd.ntmps14
  go_upto_region 2 with (fail)
  have f1 : ((w.alloc (.cells #[.int .i64 G, .slice A fs.length c] 24)).alloc (.cells #[.int .i64 G, .slice A fs.length c, .int .i64 0, .int .i64 0] 75)).heap[w.heap.size]? = some (.cells #[.int .i64 G, .slice A fs.length c] 24 (0, 0)) := ((below1 _ _).block _ (by simp)).trans (alloc_new _ _)
  have f2 : ((w.alloc (.cells #[.int .i64 G, .slice A fs.length c] 24)).alloc (.cells #[.int .i64 G, .slice A fs.length c, .int .i64 0, .int .i64 0] 75)).heap[w.heap.size + 1]? = some (.cells #[.int .i64 G, .slice A fs.length c, .int .i64 0, .int .i64 0] 75 (0, 0)) := by
    have := alloc_new (w.alloc (.cells #[.int .i64 G, .slice A fs.length c] 24)) (.cells #[.int .i64 G, .slice A fs.length c, .int .i64 0, .int .i64 0] 75)
    simpa using this
  have hb0 : Below w.heap.size w ((w.alloc (.cells #[.int .i64 G, .slice A fs.length c] 24)).alloc (.cells #[.int .i64 G, .slice A fs.length c, .int .i64 0, .int .i64 0] 75)) := (below1 _ _).alloc (by simp) _
  generalize World.alloc _ _ = W at f1 f2 hb0 ⊢
  obtain ⟨b1, hb1⟩ : ∃ b1, w.heap.size = b1 := ⟨_, rfl⟩
  have HB0 := Lib.hid hb0
  have H1 := Lib.hid hb1
  clear hb0
  rw [hb1] at f1 f2 ⊢
  clear hb1
  generalize hg : b1 + 1 = g at f2 ⊢
  have HG := Lib.hid hg
  have hbg : b1 ≠ g := by omega
  clear hg
  have F1 := Lib.hid f1
  have F2 := Lib.hid (show WalkAt W g (.int .i64 G) (.slice A fs.length c) 0 0 from f2)
  clear f1 f2
  go_cut [3] (fun s3 wc => s3 = .pointer (some ⟨g, 0, none⟩) ∧ WalkAt wc g (.int .i64 G) (.slice A fs.length c) 0 (stick 0 (decide (0 ≤ G ∧ G ≤ 16)) 18) ∧ Kept g W wc)
  case first =>
    have k0 := blk_cell F1.out 0
    simp only [List.getElem?_toArray, List.getElem?_cons_succ, List.getElem?_cons_zero] at k0
    by_cases h1 : 0 ≤ G
    · have d1 : decide (0 ≤ G) = true := decide_eq_true h1
      obtain ⟨B, hB⟩ : ∃ B, decide (G ≤ 16) = B := ⟨_, rfl⟩
      have HD := Lib.hid (show decide (0 ≤ G ∧ G ≤ 16) = B by rw [← hB]; simp [h1])
      clear h1
      go_wp2_with fail
      refine (mustR_any g _ _ 0 0 B 18 W F2.out).mono ?_
      rintro r w1 ⟨rfl, hk, hw⟩
      go_wp2_with fail
      go_meet
      exact ⟨rfl, by rw [HD.out]; exact hw, hk⟩
    · have d1 : decide (0 ≤ G) = false := decide_eq_false h1
      have HD := Lib.hid (show decide (0 ≤ G ∧ G ≤ 16) = false from decide_eq_false (fun h => h1 h.1))
      clear h1
      go_wp2_with fail
      refine (mustR_any g _ _ 0 0 false 18 W F2.out).mono ?_
      rintro r w1 ⟨rfl, hk, hw⟩
      go_wp2_with fail
      go_meet
      exact ⟨rfl, by rw [HD.out]; exact hw, hk⟩
  case rest =>
    obtain ⟨rfl, hw, hk⟩ := hcut
    obtain ⟨wa, rfl⟩ : ∃ wa : World, wa = wc := ⟨_, rfl⟩
    have HW1 := Lib.hid hw
    have HK1 := Lib.hid hk
    clear hw hk
    obtain ⟨e1, he1⟩ : ∃ e1, e1 = stick 0 (decide (0 ≤ G ∧ G ≤ 16)) 18 := ⟨_, rfl⟩
    rw [← he1] at HW1
    have HE1 := Lib.hid he1
    clear he1
    go_upto_region 3 with (fail)
    go_cut [3] (fun s3 wd => s3 = .pointer (some ⟨g, 0, none⟩) ∧ WalkAt wd g (.int .i64 G) (.slice A fs.length c) 0 (stick e1 (decide (1 ≤ (fs.length : Int) ∧ (fs.length : Int) ≤ 65535)) 20) ∧ Kept g W wd)
    case first =>
      have kb1 : wa.heap[b1]? = _ := (HK1.out.block _ (blk_lt F1.out) hbg).trans F1.out
      have k1 := blk_cell kb1 1
      have c3 := blk_cell HW1.out 3
      simp only [List.getElem?_toArray, List.getElem?_cons_succ, List.getElem?_cons_zero] at k1 c3
      clear kb1
      by_cases h1 : 1 ≤ (fs.length : Int)
      · have d1 : decide (1 ≤ (fs.length : Int)) = true := decide_eq_true h1
        obtain ⟨B, hB⟩ : ∃ B, decide ((fs.length : Int) ≤ 65535) = B := ⟨_, rfl⟩
        have HD := Lib.hid (show decide (1 ≤ (fs.length : Int) ∧ (fs.length : Int) ≤ 65535) = B by rw [← hB]; simp; omega)
        clear h1
        go_wp2_with fail
        refine (mustR_any g _ _ 0 e1 B 20 wa HW1.out).mono ?_
        rintro r w1 ⟨rfl, hk, hw⟩
        go_wp2_with fail
        go_meet
        exact ⟨rfl, by rw [HD.out]; exact hw, HK1.out.trans hk⟩
      · have d1 : decide (1 ≤ (fs.length : Int)) = false := decide_eq_false h1
        have HD := Lib.hid (show decide (1 ≤ (fs.length : Int) ∧ (fs.length : Int) ≤ 65535) = false from decide_eq_false (fun h => h1 h.1))
        clear h1
        go_wp2_with fail
        refine (mustR_any g _ _ 0 e1 false 20 wa HW1.out).mono ?_
        rintro r w1 ⟨rfl, hk, hw⟩
        go_wp2_with fail
        go_meet
        exact ⟨rfl, by rw [HD.out]; exact hw, HK1.out.trans hk⟩
    case rest =>
      clear HW1 HK1
      obtain ⟨rfl, hw, hk⟩ := hcut
      obtain ⟨wd, rfl⟩ : ∃ wd : World, wd = wc := ⟨_, rfl⟩
      obtain ⟨e2, he2⟩ : ∃ e2, e2 = stick e1 (decide (1 ≤ (fs.length : Int) ∧ (fs.length : Int) ≤ 65535)) 20 := ⟨_, rfl⟩
      rw [← he2] at hw
      have HW2 := Lib.hid hw
      have HK2 := Lib.hid hk
      have HX := Lib.hid (show (e2 ≠ 0 ∧ chk G fs = e2) ∨ (e2 = 0 ∧ (0 ≤ G ∧ G ≤ 16) ∧ (1 ≤ (fs.length : Int) ∧ (fs.length : Int) ≤ 65535)) by
        rw [he2, HE1.out]
        by_cases hG : 0 ≤ G ∧ G ≤ 16
        · by_cases hF : 1 ≤ (fs.length : Int) ∧ (fs.length : Int) ≤ 65535
          · exact .inr ⟨by simp [stick, hG, hF], hG, hF⟩
          · refine .inl ⟨?_, ?_⟩
            · rw [decide_eq_true hG, decide_eq_false hF]; decide
            · rw [chk_F hG hF, decide_eq_true hG, decide_eq_false hF]; decide
        · refine .inl ⟨?_, ?_⟩
          · rw [decide_eq_false hG]; generalize decide (1 ≤ (fs.length : Int) ∧ (fs.length : Int) ≤ 65535) = b; cases b <;> decide
          · rw [chk_G hG, decide_eq_false hG]; generalize decide (1 ≤ (fs.length : Int) ∧ (fs.length : Int) ≤ 65535) = b; cases b <;> decide)
      clear hw hk he2 HE1
      go_wp2_with fail
      rcases HX.out with ⟨hn, hc⟩ | ⟨h0, hG, hF⟩
      · -- something was wrong ahead of the heads
        have DZ := Lib.hid (show DeadAt w W g (.int .i64 G) (.slice A fs.length c) e2 wd from ⟨⟨_, HW2.out⟩, HK2.out, HK2.out.below HB0.out (Nat.le_refl _) (by have := H1.out; have := HG.out; omega)⟩)
        obtain ⟨ez, hez⟩ : ∃ ez, e2 = ez := ⟨_, rfl⟩
        have NZ := Lib.hid (hez ▸ hn)
        have CZ := Lib.hid (hez ▸ hc)
        rw [hez] at DZ
        clear hez
        clear hn hc HX HW2 HK2
        go_loopw [4] (fun i wr' => i = .int .i64 0 ∧ DeadAt w W g (.int .i64 G) (.slice A fs.length c) ez wr') (fun _ _ => 0)
        case atStart => exact ⟨rfl, DZ.out⟩
        case round =>
          clear DZ
          obtain ⟨rfl, hz⟩ := hrel
          have DZ := Lib.hid hz
          clear hz
          obtain ⟨lz, hz⟩ := DZ.out.wk
          have kb1 : wr.heap[b1]? = _ := (DZ.out.kp.block _ (blk_lt F1.out) hbg).trans F1.out
          have k1 := blk_cell kb1 1
          have c3 := blk_cell hz 3
          simp only [List.getElem?_toArray, List.getElem?_cons_succ, List.getElem?_cons_zero] at k1 c3
          clear kb1
          clear hz
          have hz0 : (ez == 0) = false := by simpa using NZ.out
          rcases hlb : decide (0 < fs.length)
          all_goals
            go_wp2_with fail
            clear k1 c3
            obtain ⟨wo, rfl⟩ : ∃ wo : World, wo = wr := ⟨_, rfl⟩
            go_loopw [5] (fun i wr' => i = .int .i64 0 ∧ DeadAt w W g (.int .i64 G) (.slice A fs.length c) ez wr') (fun _ _ => 0)
            case atStart => exact ⟨rfl, DZ.out⟩
            case round =>
              clear DZ
              obtain ⟨rfl, hz⟩ := hrel
              have DZ := Lib.hid hz
              clear hz
              obtain ⟨lz, hz⟩ := DZ.out.wk
              have kb1 : wr.heap[b1]? = _ := (DZ.out.kp.block _ (blk_lt F1.out) hbg).trans F1.out
              have k1 := blk_cell kb1 1
              have c3 := blk_cell hz 3
              simp only [List.getElem?_toArray, List.getElem?_cons_succ, List.getElem?_cons_zero] at k1 c3
              clear kb1
              clear hz
              have hz0 : (ez == 0) = false := by simpa using NZ.out
              rcases hlb : decide (0 < fs.length)
              all_goals
                go_wp2_with fail
                go_ret
                exact ⟨by rw [CZ.out]; rfl, DZ.out.bl⟩
      · subst h0
        have HGF := Lib.hid (And.intro hG hF)
        have HLV := Lib.hid (show LiveAt w W g (.int .i64 G) (.slice A fs.length c) (runTo (headStep fs) 0 0) wd from ⟨0, by omega, by omega, rfl, HW2.out, HK2.out, HK2.out.below HB0.out (Nat.le_refl _) (by have := H1.out; have := HG.out; omega)⟩)
        clear hG hF HX HW2 HK2
        go_loopw [4] (fun i wr => ∃ j : Nat, j ≤ fs.length ∧ i = .int .i64 j ∧ (LiveAt w W g (.int .i64 G) (.slice A fs.length c) (runTo (headStep fs) 0 j) wr ∨ ∃ ez, ez ≠ 0 ∧ chk G fs = ez ∧ DeadAt w W g (.int .i64 G) (.slice A fs.length c) ez wr)) (fun i _ => fs.length - (intOf i).toNat)
        case atStart => exact ⟨0, by omega, rfl, .inl HLV.out⟩
        case round =>
          clear HLV
          obtain ⟨j, hj, rfl, hst⟩ := hrel
          rcases hst with hst | ⟨ez, hn, hc, hz⟩
          · have HLV := Lib.hid hst
            clear hst
            obtain ⟨l, hl0, hl1, hr, hw, hk, hb⟩ := HLV.out
            clear HLV
            have HR := Lib.hid hr
            have HWK := Lib.hid hw
            have HK := Lib.hid hk
            have HB := Lib.hid hb
            clear hr hw hk hb
            have kb1 : wr.heap[b1]? = _ := (HK.out.block _ (blk_lt F1.out) hbg).trans F1.out
            have k1 := blk_cell kb1 1
            have c3 := blk_cell HWK.out 3
            simp only [List.getElem?_toArray, List.getElem?_cons_succ, List.getElem?_cons_zero] at k1 c3
            clear kb1
            by_cases hlt : j < fs.length
            · obtain ⟨ad, FA, fc, hAd, e0, e1, e2, e3, hfc, _⟩ := at_T45 (Kd.C_below HC.out HB.out : k45.C wr A fs.length fs) (j : Int) (by omega) (by omega)
              obtain ⟨f, hf0⟩ : ∃ f, f = fs.getD j zF := ⟨_, rfl⟩
              have hfr : rd_T45 fs (j : Int) = f := by rw [rd_T45, Int.toNat_natCast]; exact hf0.symm
              rw [hfr, Int.toNat_natCast] at e0 e1 e2 e3
              rw [hfr] at hfc
              obtain ⟨nc, hnc⟩ : ∃ nc, nc = f.f3.length := ⟨_, rfl⟩
              rw [← hnc] at e3 hfc
              have hmem : f ∈ fs := hf0 ▸ (by rw [List.getD_eq_getElem?_getD, List.getElem?_eq_getElem hlt]; exact List.getElem_mem hlt)
              have hncs : nc ≤ 2147483647 := hnc ▸ (HCODE.out f hmem).1
              have hin := (HCODE.out f hmem).2
              have hcd := (at_T45 HC.out (j : Int) (by omega) (by omega))
              obtain ⟨ad', FA', fc', hAd', _, _, _, g3, _, hcd⟩ := hcd
              rw [hAd] at hAd'
              injection hAd' with hAd'
              subst hAd'
              rw [hfr] at hcd g3
              rw [Int.toNat_natCast] at g3
              rw [below_cells HB.out _ _ g3] at e3
              injection e3 with e3
              injection e3 with hFA _ _
              subst hFA
              obtain ⟨FA, rfl⟩ : ∃ B, B = FA' := ⟨_, rfl⟩
              replace e3 := below_cells HB.out _ _ g3
              rw [← hnc] at e3 hcd
              have HFJ := Lib.hid hf0
              have HNC := Lib.hid hnc
              subst hAd
              clear hf0 hfr hnc hmem hfc g3
              clear hin hcd
              go_wp2_with fail
              refine wp_region_still_tail 13 (by kernel_rfl) (by kernel_rfl) ?_
              change wpStill _ _ wr.drew (fun a' => wpList _ _ _ _ a' wr.drew) _ _
              simp only [List.take_succ_cons, List.take_zero, List.drop_succ_cons, List.drop_zero]
              repeat still_step
              refine wpStill_nil ?_
              go_wp2_with fail
              refine (headR_any g _ _ l f FA nc fc nc wr.drew HWK.out ⟨hl0, hl1⟩ (by omega)).mono ?_
              rintro r w3 ⟨rfl, hk3, hm⟩
              have HK3 := Lib.hid (HK.out.trans (Kept.trans (w1 := wr.drew) ((Kept.of_below (Below.refl _ _)).drewN 1) hk3))
              have HM := Lib.hid hm
              have HB3 := Lib.hid (HK3.out.below HB0.out (Nat.le_refl _) (by have := H1.out; have := HG.out; omega))
              have HQJ := Lib.hid (show headStep fs l j = headQ l f nc by rw [headStep, ← HFJ.out, HNC.out])
              clear hk3 hm k1 c3 e0 e1 e2 e3
              go_wp2_with fail
              go_roundw
              case rel =>
                refine ⟨j + 1, by omega, by go_num, ?_⟩
                have hm := HM.out
                cases hq : headQ l f nc with
                | ok l' =>
                  rw [hq] at hm
                  have hrg := headQ_range hq ⟨hl0, hl1⟩
                  exact .inl ⟨l', hrg.1, hrg.2, (runTo_succ HR.out).trans (HQJ.out.trans hq), hm, HK3.out, HB3.out⟩
                | error err =>
                  rw [hq] at hm
                  exact .inr ⟨err, headQ_err_ne hq, chk_heads HGF.out.1 HGF.out.2 (runTo_err HR.out (HQJ.out.trans hq) hlt), hm, HK3.out, HB3.out⟩
              case measure => simp [intOf]; omega
            · obtain rfl : j = fs.length := by omega
              have HL0 := Lib.hid (chk_codes HGF.out.1 HGF.out.2 HR.out)
              obtain ⟨l0, hl00⟩ : ∃ l0, l0 = l := ⟨_, rfl⟩
              rw [← hl00] at HL0
              have HLV := Lib.hid (show LiveAt w W g (.int .i64 G) (.slice A fs.length c) (runTo (codeQ G fs) l0 0) wr from ⟨l, hl0, hl1, hl00 ▸ rfl, HWK.out, HK.out, HB.out⟩)
              clear hl00 HR HWK HK HB
              go_wp2_with fail
              clear k1 c3
              obtain ⟨wo, rfl⟩ : ∃ wo : World, wo = wr := ⟨_, rfl⟩
              go_loopw [5] (fun i wr => ∃ j : Nat, j ≤ fs.length ∧ i = .int .i64 j ∧ (LiveAt w W g (.int .i64 G) (.slice A fs.length c) (runTo (codeQ G fs) l0 j) wr ∨ ∃ ez, ez ≠ 0 ∧ chk G fs = ez ∧ DeadAt w W g (.int .i64 G) (.slice A fs.length c) ez wr)) (fun i _ => fs.length - (intOf i).toNat)
              case atStart => exact ⟨0, by omega, rfl, .inl HLV.out⟩
              case round =>
                clear HLV hl0 hl1 hj hlt l
                obtain ⟨j, hj, rfl, hst⟩ := hrel
                rcases hst with hst | ⟨ez, hn, hc, hz⟩
                · have HLV := Lib.hid hst
                  clear hst
                  obtain ⟨l, hl0, hl1, hr, hw, hk, hb⟩ := HLV.out
                  have HR := Lib.hid hr
                  have HWK := Lib.hid hw
                  have HK := Lib.hid hk
                  have HB := Lib.hid hb
                  clear hr hw hk hb HLV
                  have kb1 : wr.heap[b1]? = _ := (HK.out.block _ (blk_lt F1.out) hbg).trans F1.out
                  have k1 := blk_cell kb1 1
                  have c3 := blk_cell HWK.out 3
                  simp only [List.getElem?_toArray, List.getElem?_cons_succ, List.getElem?_cons_zero] at k1 c3
                  clear kb1
                  by_cases hlt : j < fs.length
                  · obtain ⟨ad, FA, fc, hAd, e0, e1, e2, e3, hfc, _⟩ := at_T45 (Kd.C_below HC.out HB.out : k45.C wr A fs.length fs) (j : Int) (by omega) (by omega)
                    obtain ⟨f, hf0⟩ : ∃ f, f = fs.getD j zF := ⟨_, rfl⟩
                    have hfr : rd_T45 fs (j : Int) = f := by rw [rd_T45, Int.toNat_natCast]; exact hf0.symm
                    rw [hfr, Int.toNat_natCast] at e0 e1 e2 e3
                    rw [hfr] at hfc
                    obtain ⟨nc, hnc⟩ : ∃ nc, nc = f.f3.length := ⟨_, rfl⟩
                    rw [← hnc] at e3 hfc
                    have hmem : f ∈ fs := hf0 ▸ (by rw [List.getD_eq_getElem?_getD, List.getElem?_eq_getElem hlt]; exact List.getElem_mem hlt)
                    have hncs : nc ≤ 2147483647 := hnc ▸ (HCODE.out f hmem).1
                    have hin := (HCODE.out f hmem).2
                    have hcd := (at_T45 HC.out (j : Int) (by omega) (by omega))
                    obtain ⟨ad', FA', fc', hAd', _, _, _, g3, _, hcd⟩ := hcd
                    rw [hAd] at hAd'
                    injection hAd' with hAd'
                    subst hAd'
                    rw [hfr] at hcd g3
                    rw [Int.toNat_natCast] at g3
                    rw [below_cells HB.out _ _ g3] at e3
                    injection e3 with e3
                    injection e3 with hFA _ _
                    subst hFA
                    obtain ⟨FA, rfl⟩ : ∃ B, B = FA' := ⟨_, rfl⟩
                    replace e3 := below_cells HB.out _ _ g3
                    rw [← hnc] at e3 hcd
                    have HFJ := Lib.hid hf0
                    have HNC := Lib.hid hnc
                    subst hAd
                    clear hf0 hfr hnc hmem hfc g3
                    have HCD := Lib.hid hcd
                    have HIN := Lib.hid hin
                    clear hcd hin
                    go_wp2_with fail
                    clear k1 c3 e0 e1 e2 e3
                    have hfn := alloc_new wr (.cells #[.int .i64 f.f0, .int .i64 f.f1, .int .i64 f.f2, .slice FA nc fc] 45)
                    have hbn := below1 wr (.cells #[.int .i64 f.f0, .int .i64 f.f1, .int .i64 f.f2, .slice FA nc fc] 45)
                    generalize World.alloc _ _ = W2 at hfn hbn ⊢
                    obtain ⟨b2, hb2⟩ : ∃ b2, wr.heap.size = b2 := ⟨_, rfl⟩
                    have hg2 : g < b2 := hb2 ▸ blk_lt HWK.out
                    have hbW : W.heap.size ≤ b2 := hb2 ▸ HK.out.size
                    obtain ⟨l1, hl11⟩ : ∃ l1, l1 = l := ⟨_, rfl⟩
                    have HLV := Lib.hid (show LiveAt w W g (.int .i64 G) (.slice (some ad) fs.length c) (runTo (instrQ G fs f) l1 0) W2 from ⟨l, hl0, hl1, hl11 ▸ rfl, walk_below HWK.out hbn, HK.out.trans (Kept.of_below hbn), HB.out.trans (hbn.mono HB.out.size)⟩)
                    rw [← hl11] at HR
                    rw [hb2] at hfn ⊢
                    have HFN := Lib.hid hfn
                    clear hfn hbn hl11 hb2 HWK HK HB hl0 hl1
                    go_loopw [7] (fun i wr => ∃ k : Nat, k ≤ nc ∧ i = .int .i64 k ∧ wr.heap[b2]? = some (.cells #[.int .i64 f.f0, .int .i64 f.f1, .int .i64 f.f2, .slice FA nc fc] 45 (0, 0)) ∧ (LiveAt w W g (.int .i64 G) (.slice (some ad) fs.length c) (runTo (instrQ G fs f) l1 k) wr ∨ ∃ ez, ez ≠ 0 ∧ chk G fs = ez ∧ DeadAt w W g (.int .i64 G) (.slice (some ad) fs.length c) ez wr)) (fun i _ => nc - (intOf i).toNat)
                    case atStart => exact ⟨0, by omega, rfl, HFN.out, .inl HLV.out⟩
                    case round =>
                      clear HLV HFN l
                      obtain ⟨k, hk, rfl, hfn, hst⟩ := hrel
                      have HFN := Lib.hid hfn
                      clear hfn
                      have y0 := blk_cell HFN.out 0
                      have y1 := blk_cell HFN.out 1
                      have y2 := blk_cell HFN.out 2
                      have y3 := blk_cell HFN.out 3
                      simp only [List.getElem?_toArray, List.getElem?_cons_succ, List.getElem?_cons_zero] at y0 y1 y2 y3
                      rcases hst with hst | ⟨ez, hn, hc, hz⟩
                      · have HLV := Lib.hid hst
                        clear hst
                        obtain ⟨l, hl0, hl1, hr, hw, hkk, hb⟩ := HLV.out
                        have HR2 := Lib.hid hr
                        have HWK := Lib.hid hw
                        have HK := Lib.hid hkk
                        have HB := Lib.hid hb
                        clear hr hw hkk hb HLV
                        have kb1 : wr.heap[b1]? = _ := (HK.out.block _ (blk_lt F1.out) hbg).trans F1.out
                        have k1 := blk_cell kb1 1
                        have c3 := blk_cell HWK.out 3
                        simp only [List.getElem?_toArray, List.getElem?_cons_succ, List.getElem?_cons_zero] at k1 c3
                        clear kb1
                        by_cases hltk : k < nc
                        · obtain ⟨cd, A5, c5, A6, c6, hCd, x0, x1, x2, x3, x4, x5, x6, l5, h5, l6, h6⟩ := at_T52 HCD.out (k : Int) (by omega) (by omega)
                          obtain ⟨x, hx0⟩ : ∃ x, x = f.f3.getD k zI := ⟨_, rfl⟩
                          have hxr : rd_T52 f.f3 (k : Int) = x := by rw [rd_T52, Int.toNat_natCast]; exact hx0.symm
                          rw [hxr] at x0 x1 x2 x3 x4 x5 x6 h5 h6
                          rw [Int.toNat_natCast] at x0 x1 x2 x3 x4 x5 x6
                          replace x0 := below_cells HB.out _ _ x0
                          replace x1 := below_cells HB.out _ _ x1
                          replace x2 := below_cells HB.out _ _ x2
                          replace x3 := below_cells HB.out _ _ x3
                          replace x4 := below_cells HB.out _ _ x4
                          replace x5 := below_cells HB.out _ _ x5
                          replace x6 := below_cells HB.out _ _ x6
                          have hxm : x ∈ f.f3 := hx0 ▸ (by rw [List.getD_eq_getElem?_getD, List.getElem?_eq_getElem (HNC.out ▸ hltk)]; exact List.getElem_mem _)
                          have HXM := Lib.hid (HIN.out x hxm)
                          have HX5 := Lib.hid h5
                          have HX6 := Lib.hid h6
                          rw [hCd] at y3
                          have HXK := Lib.hid hx0
                          have HCDA := Lib.hid hCd
                          clear l5 h5 l6 h6 hx0 hxr hxm hCd
                          have hlast : ((k : Int) == (nc : Int) - 1) = decide (k + 1 = nc) := by
                            by_cases h : k + 1 = nc
                            · rw [decide_eq_true h]; simp; omega
                            · rw [decide_eq_false h]; simp; omega
                          obtain ⟨last, hla⟩ : ∃ last, last = decide (k + 1 = nc) := ⟨_, rfl⟩
                          rw [← hla] at hlast
                          have HLA := Lib.hid hla
                          clear hla
                          go_wp2_with fail
                          have hs1 : IntKind.i64.wrap ((nc : Int) - 1) = (nc : Int) - 1 := IntWalk.i64_in _ (by omega)
                          refine wp_region_still_tail 13 (by kernel_rfl) (by kernel_rfl) ?_
                          change wpStill _ _ wr.drew (fun a' => wpList _ _ _ _ a' wr.drew) _ _
                          simp only [List.take_succ_cons, List.take_zero, List.drop_succ_cons, List.drop_zero]
                          repeat still_step
                          refine wpStill_nil ?_
                          clear hs1
                          go_wp2_with fail
                          have HI := Lib.hid (instrR_any g G (some ad) c fs l f (some cd) fc x A5 c5 A6 c6 last w wr.drew HWK.out ⟨hl0, hl1⟩ (pw_below_drewN HB.out 1) (by have := H1.out; have := HG.out; omega) HC.out HX5.out HX6.out HXM.out.1 HXM.out.2)
                          rw [← HNC.out] at HI
                          refine HI.out.mono ?_
                          rintro r w3 ⟨rfl, hk3, hm⟩
                          have HFN3 := Lib.hid ((hk3.block _ (blk_lt HFN.out) (by omega)).trans HFN.out)
                          have HK3 := Lib.hid (HK.out.trans (Kept.trans (w1 := wr.drew) ((Kept.of_below (Below.refl _ _)).drewN 1) hk3))
                          have HM := Lib.hid hm
                          have HB3 := Lib.hid (HK3.out.below HB0.out (Nat.le_refl _) (by have := H1.out; have := HG.out; omega))
                          have HQI := Lib.hid (show instrQ G fs f l k = insQ G fs f l x last by rw [instrQ_is, ← HXK.out, ← HNC.out, ← HLA.out])
                          clear hk3 hm k1 c3 y0 y1 y2 y3 x0 x1 x2 x3 x4 x5 x6 hlast HI
                          go_wp2_with fail
                          go_roundw
                          case rel =>
                            refine ⟨k + 1, by omega, by go_num, HFN3.out, ?_⟩
                            have hm := HM.out
                            cases hq : insQ G fs f l x last with
                            | ok l' =>
                              rw [hq] at hm
                              have hrg := insQ_range hq ⟨hl0, hl1⟩
                              exact .inl ⟨l', hrg.1, hrg.2, (runTo_succ HR2.out).trans (HQI.out.trans hq), hm, HK3.out, HB3.out⟩
                            | error err =>
                              rw [hq] at hm
                              exact .inr ⟨err, insQ_err_ne hq, HL0.out.trans (codes_err hlt HR.out HFJ.out (HNC.out ▸ hltk) HR2.out (HQI.out.trans hq)), hm, HK3.out, HB3.out⟩
                          case measure => simp [intOf]; omega
                        · obtain rfl : k = nc := by omega
                          go_wp2_with fail
                          clear k1 c3 y0 y1 y2 y3
                          go_roundw
                          case rel => exact ⟨j + 1, by omega, by go_num, .inl ⟨l, hl0, hl1, (runTo_succ HR.out).trans (codeQ_ok HFJ.out (HNC.out ▸ HR2.out)), HWK.out, HK.out, HB.out⟩⟩
                          case measure => simp [intOf]; omega
                      · have DZ := Lib.hid hz
                        have NZ := Lib.hid hn
                        have CZ := Lib.hid hc
                        clear hz hn hc
                        obtain ⟨lz, hz⟩ := DZ.out.wk
                        have kb1 : wr.heap[b1]? = _ := (DZ.out.kp.block _ (blk_lt F1.out) hbg).trans F1.out
                        have k1 := blk_cell kb1 1
                        have c3 := blk_cell hz 3
                        simp only [List.getElem?_toArray, List.getElem?_cons_succ, List.getElem?_cons_zero] at k1 c3
                        clear kb1
                        clear hz
                        have hz0 : (ez == 0) = false := by simpa using NZ.out
                        rcases hlb : decide (k < nc)
                        all_goals
                          go_wp2_with fail
                          clear k1 c3 y0 y1 y2 y3
                          go_roundw
                          case rel => exact ⟨j + 1, by omega, by go_num, .inr ⟨ez, NZ.out, CZ.out, DZ.out⟩⟩
                          case measure => simp [intOf]; omega
                  · obtain rfl : j = fs.length := by omega
                    have CZ := Lib.hid (show chk G fs = 0 by rw [HL0.out, codesQ, HR.out]; rfl)
                    go_wp2_with fail
                    go_ret
                    exact ⟨by rw [CZ.out]; rfl, HB.out⟩
                · have DZ := Lib.hid hz
                  have NZ := Lib.hid hn
                  have CZ := Lib.hid hc
                  clear hz hn hc
                  obtain ⟨lz, hz⟩ := DZ.out.wk
                  have kb1 : wr.heap[b1]? = _ := (DZ.out.kp.block _ (blk_lt F1.out) hbg).trans F1.out
                  have k1 := blk_cell kb1 1
                  have c3 := blk_cell hz 3
                  simp only [List.getElem?_toArray, List.getElem?_cons_succ, List.getElem?_cons_zero] at k1 c3
                  clear kb1
                  clear hz
                  have hz0 : (ez == 0) = false := by simpa using NZ.out
                  rcases hlb : decide (j < fs.length)
                  all_goals
                    go_wp2_with fail
                    go_ret
                    exact ⟨by rw [CZ.out]; rfl, DZ.out.bl⟩
          · have DZ := Lib.hid hz
            have NZ := Lib.hid hn
            have CZ := Lib.hid hc
            clear hz hn hc
            obtain ⟨lz, hz⟩ := DZ.out.wk
            have kb1 : wr.heap[b1]? = _ := (DZ.out.kp.block _ (blk_lt F1.out) hbg).trans F1.out
            have k1 := blk_cell kb1 1
            have c3 := blk_cell hz 3
            simp only [List.getElem?_toArray, List.getElem?_cons_succ, List.getElem?_cons_zero] at k1 c3
            clear kb1
            clear hz
            have hz0 : (ez == 0) = false := by simpa using NZ.out
            rcases hlb : decide (j < fs.length)
            all_goals
              go_wp2_with fail
              clear k1 c3
              obtain ⟨wo, rfl⟩ : ∃ wo : World, wo = wr := ⟨_, rfl⟩
              go_loopw [5] (fun i wr' => i = .int .i64 0 ∧ DeadAt w W g (.int .i64 G) (.slice A fs.length c) ez wr') (fun _ _ => 0)
              case atStart => exact ⟨rfl, DZ.out⟩
              case round =>
                clear DZ
                obtain ⟨rfl, hz⟩ := hrel
                have DZ := Lib.hid hz
                clear hz
                obtain ⟨lz, hz⟩ := DZ.out.wk
                have kb1 : wr.heap[b1]? = _ := (DZ.out.kp.block _ (blk_lt F1.out) hbg).trans F1.out
                have k1 := blk_cell kb1 1
                have c3 := blk_cell hz 3
                simp only [List.getElem?_toArray, List.getElem?_cons_succ, List.getElem?_cons_zero] at k1 c3
                clear kb1
                clear hz
                have hz0 : (ez == 0) = false := by simpa using NZ.out
                rcases hlb : decide (0 < fs.length)
                all_goals
                  go_wp2_with fail
                  go_ret
                  exact ⟨by rw [CZ.out]; rfl, DZ.out.bl⟩
end Go.Proofs.YtcbcacbbnojdjaaDoor
