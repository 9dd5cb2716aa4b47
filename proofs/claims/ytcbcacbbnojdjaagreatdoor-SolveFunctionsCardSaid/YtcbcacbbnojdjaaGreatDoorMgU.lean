/-
 Part U of what the law's proof needs: walks of the program's functions and the plain laws of what they tell. No condition.
-/
import Derived.Test.YtcbcacbbnojdjaaGreatDoorMgQ
import Derived.Test.YtcbcacbbnojdjaaGreatDoorMgR
import Derived.Deep.QuietTactic
import Derived.BigQuiet
namespace Go.Proofs.YtcbcacbbnojdjaaGreatDoor
open Go.RowKit Go.Proofs.YtcbcacbbnojdjaaGreatDoorW.PrintWords Go.Proofs.YtcbcacbbnojdjaaGreatDoor.PSolveFunctions
set_option linter.unusedVariables false
set_option linter.unusedSimpArgs false
theorem weightR_any (a : Int) (w : World) : Calls Tryz.prog 167 #[.int .i64 a] w fun e w' => e = .returned (.int .i64 (wgt a)) ∧ w = w' := by
 by_cases h1 : a < -1
 ·have HW := Lib.hid (show wgt a = 9 from if_pos (.inl h1))
  have d1 : decide (a < -1) = true := decide_eq_true h1
  clear h1
  go_enter Tryz.func167, Tryz.ntmps167
  go_wp2_with fail
  go_ret
  exact ⟨by rw [HW.out]; rfl, rfl⟩
 ·by_cases h2 : 3 < a
  ·have HW := Lib.hid (show wgt a = 9 from if_pos (.inr h2))
   have d1 : decide (a < -1) = false := decide_eq_false h1
   have d2 : decide (3 < a) = true := decide_eq_true h2
   clear h1 h2
   go_enter Tryz.func167, Tryz.ntmps167
   go_wp2_with fail
   go_ret
   exact ⟨by rw [HW.out]; rfl, rfl⟩
  ·have HW := Lib.hid (show wgt a = a from if_neg (by omega))
   have d1 : decide (a < -1) = false := decide_eq_false h1
   have d2 : decide (3 < a) = false := decide_eq_false h2
   clear h1 h2
   go_enter Tryz.func167, Tryz.ntmps167
   go_wp2_with fail
   go_ret
   exact ⟨by rw [HW.out]; rfl, rfl⟩
set_option maxHeartbeats 3200000 in
theorem plusR_any (d v : Int) (w : World) : Calls Tryz.prog 137 #[.int .i64 d, .int .i64 v] w fun e w' => e = .returned (.int .i64 (plus d v)) ∧ w = w' := by
 have h1 := wgt_inw d
 have h2 := wgt_inw v
 have HP := Lib.hid (show plus d v = if wgt d = 9 ∨ wgt v = 9 then 9 else if (if wgt d < 0 then 0 else wgt d) + wgt v < 3 then (if wgt d < 0 then 0 else wgt d) + wgt v else 3 from rfl)
 have HA := Lib.hid (weightR_any d w)
 have HB := Lib.hid (weightR_any v w)
 generalize wgt d = a at h1 HP HA
 generalize wgt v = b at h2 HP HB
 unfold InW at h1 h2
 go_enter Tryz.func137, Tryz.ntmps137
 go_wp2_with fail
 refine HA.out.mono ?_
 rintro e w1 ⟨rfl, rfl⟩
 go_wp2_with fail
 refine HB.out.mono ?_
 rintro e w1 ⟨rfl, rfl⟩
 by_cases ha : a = 9
 ·subst ha
  go_wp2_with fail
  go_ret
  exact ⟨by rw [HP.out]; rfl, rfl⟩
 ·by_cases hb : b = 9
  ·subst hb
   have e1 : (a == 9) = false := by simpa using ha
   clear ha
   go_wp2_with fail
   go_ret
   exact ⟨by rw [HP.out, if_pos (by simp)]; rfl, rfl⟩
  ·have e1 : (a == 9) = false := by simpa using ha
   have e2 : (b == 9) = false := by simpa using hb
   have HN := Lib.hid (And.intro ha hb)
   clear ha hb
   by_cases h0 : a < 0
   ·have d0 : decide (a < 0) = true := decide_eq_true h0
    have d1 : decide (3 < 0 + b) = false := decide_eq_false (by have := HN.out; omega)
    have d1' : decide (3 < b) = false := decide_eq_false (by have := HN.out; omega)
    have HR := Lib.hid (show plus d v = b by rw [HP.out, if_neg (by have := HN.out; omega)]; have := HN.out; (repeat' split) <;> omega)
    clear h0
    go_wp2_with fail
    all_goals
     go_ret
     refine ⟨ret_i64 ?_, rfl⟩
     rw [HR.out]
     first | rfl | omega | trace_state
   ·have d0 : decide (a < 0) = false := decide_eq_false h0
    by_cases h3 : 3 < a + b
    ·have d1 : decide (3 < a + b) = true := decide_eq_true h3
     have HR := Lib.hid (show plus d v = 3 by rw [HP.out, if_neg (by have := HN.out; omega)]; have := HN.out; (repeat' split) <;> omega)
     clear h0 h3
     go_wp2_with fail
     all_goals
      go_ret
      refine ⟨ret_i64 ?_, rfl⟩
      rw [HR.out]
    ·have d1 : decide (3 < a + b) = false := decide_eq_false h3
     have HR := Lib.hid (show plus d v = a + b by rw [HP.out, if_neg (by have := HN.out; omega)]; have := HN.out; (repeat' split) <;> omega)
     clear h0 h3
     go_wp2_with fail
     all_goals
      go_ret
      refine ⟨ret_i64 ?_, rfl⟩
      rw [HR.out]
theorem told_any' (d : Int) (hd : -1 ≤ d) (w : World) : Calls Tryz.prog 53 #[.int .i64 d] w fun e w' => e = .returned (.int .i64 (max d 0)) ∧ w = w' := by
 by_cases h : d = -1
 ·subst h
  go_enter Tryz.func53, Tryz.ntmps53
  go_wp2_with fail
  go_ret
  exact ⟨rfl, rfl⟩
 ·have e1 : (d == -1) = false := by simpa using h
  have HD := Lib.hid (show max d 0 = d by omega)
  clear h
  go_enter Tryz.func53, Tryz.ntmps53
  go_wp2_with fail
  go_ret
  exact ⟨by rw [HD.out]; rfl, rfl⟩
def varE (f : Fun) (v : Int) : Int := if 0 ≤ v ∧ v < f.f2 then atE f v else -1
theorem varE_of {f : Fun} {v : Int} (h : 0 ≤ v ∧ v < f.f2) : varE f v = atE f v := if_pos h
theorem var7_any (f : Fun) (v : Int) (A : Option Addr) (k c : Nat) (w : World) (hr : 0 ≤ f.f1 ∧ f.f1 ≤ 4) (h2 : f.f2 ≤ 255) :
  Calls Tryz.prog 52 #[.agg #[.int .i64 f.f0, .int .i64 f.f1, .int .i64 f.f2, .slice A k c], .int .i64 v] w fun e w' => e = .returned (.int .i64 (varE f v)) ∧ Below w.heap.size w w' := by
 have HQ := Lib.hid (show varE f v = if 0 ≤ v ∧ v < f.f2 then 1 + f.f1 + v else -1 from rfl)
 obtain ⟨f0, f1, f2, f3⟩ := f
 dsimp only at hr h2 HQ ⊢
 have d1 : decide (f1 < 0) = false := decide_eq_false (by omega)
 go_enter Tryz.func52, Tryz.ntmps52
 go_upto_region 1 with (fail)
 have hb := below1 w (.cells #[.int .i64 f0, .int .i64 f1, .int .i64 f2, .slice A k c] 66)
 have hn := alloc_new w (.cells #[.int .i64 f0, .int .i64 f1, .int .i64 f2, .slice A k c] 66)
 obtain ⟨N, hN⟩ : ∃ N, w.heap.size = N := ⟨_, rfl⟩
 rw [hN] at hb hn ⊢
 generalize World.alloc _ _ = W at hb hn ⊢
 have c1 := blk_cell hn 1
 have c2 := blk_cell hn 2
 simp only [List.getElem?_toArray, List.getElem?_cons_succ, List.getElem?_cons_zero] at c1 c2
 have HB := Lib.hid hb
 have HNN := Lib.hid hN
 clear hb hn hN
 by_cases h0 : v < 0
 ·have d2 : decide (v < 0) = true := decide_eq_true h0
  have HR := Lib.hid (show varE ⟨f0, f1, f2, f3⟩ v = -1 by rw [HQ.out, if_neg (by omega)])
  clear h0
  go_wp2_with fail
  go_ret
  rw [HNN.out]
  exact ⟨by rw [HR.out]; rfl, HB.out⟩
 ·have d2 : decide (v < 0) = false := decide_eq_false h0
  by_cases h3 : f2 ≤ v
  ·have d3 : decide (f2 ≤ v) = true := decide_eq_true h3
   have HR := Lib.hid (show varE ⟨f0, f1, f2, f3⟩ v = -1 by rw [HQ.out, if_neg (by omega)])
   clear h0 h3
   go_wp2_with fail
   go_ret
   rw [HNN.out]
   exact ⟨by rw [HR.out]; rfl, HB.out⟩
  ·have d3 : decide (f2 ≤ v) = false := decide_eq_false h3
   have HR := Lib.hid (show varE ⟨f0, f1, f2, f3⟩ v = 1 + f1 + v by rw [HQ.out, if_pos (by omega)])
   have hv0 : 0 ≤ v := by omega
   have hv1 : v < f2 := by omega
   clear h0 h3
   go_wp2_with fail
   go_ret
   rw [HNN.out]
   exact ⟨by rw [HR.out]; rfl, HB.out⟩
open Go.RowKit Go.Maps Go.Proofs.YtcbcacbbnojdjaaGreatDoorW.PrintWords Go.Proofs.YtcbcacbbnojdjaaGreatDoorW.PrintLast Go.Proofs.YtcbcacbbnojdjaaGreatDoor.PSolveFunctions
set_option maxRecDepth 100000 in
set_option maxHeartbeats 6400000 in
theorem rightW_any (n : Nat) (Ae : Option Addr) (ce : Nat) (E : List Edg) (Ar : Option Addr) (cr : Nat) (R : List Int) (w : World) (hE : k144.C w Ae E.length E) (hce : E.length ≤ ce) (hR : (Kd.int .i64).C w Ar R.length R) (hcr : R.length ≤ cr)
  (okE' : ∀ e ∈ E, okE n e) (okR : ∀ r ∈ R, 0 ≤ r ∧ r < n) (hn : n ≤ 1048576) (hle : E.length ≤ 2147483647) (hlr : R.length ≤ 2147483647) :
  Calls Tryz.prog 136 #[.int .i64 n, .slice Ae E.length ce, .slice Ar R.length cr] w fun e w' => e = .returned (.bool true) ∧ Below w.heap.size w w' := by
 have HE := Lib.hid hE
 have HR := Lib.hid hR
 have HOE := Lib.hid okE'
 have HOR := Lib.hid okR
 have d0 : decide ((n : Int) < 0) = false := decide_eq_false (by omega)
 have d1 : decide ((1048576 : Int) < n) = false := decide_eq_false (by omega)
 clear hE hR okE' okR
 go_enter Tryz.func136, Tryz.ntmps136
 go_wp2_with fail
 go_loopw [7] (fun i wr => ∃ j : Nat, j ≤ E.length ∧ i = .int .i64 j ∧ Below w.heap.size w wr) (fun i _ => E.length - (intOf i).toNat)
 case atStart => exact ⟨0, by omega, rfl, Below.refl _ _⟩
 case round =>
  obtain ⟨j, hj, rfl, hb⟩ := hrel
  have HB := Lib.hid hb
  clear hb
  by_cases hlt : j < E.length
  ·obtain ⟨ad, hAd, e0, e1, e2⟩ := at_T144 (Kd.C_below HE.out HB.out) (j : Int) (by omega) (by omega)
   have hok := HOE.out _ (getD_memE hlt)
   obtain ⟨e, he0⟩ : ∃ e, e = E.getD j zE := ⟨_, rfl⟩
   have her : rd_T144 E (j : Int) = e := by rw [rd_T144, Int.toNat_natCast]; exact he0.symm
   rw [← he0] at hok
   rw [her, Int.toNat_natCast] at e0 e1 e2
   unfold okE at hok
   subst hAd
   clear he0 her
   go_upto_region 7 with (fail)
   have hb1 := below1 wr (.cells #[.int .i64 e.f0, .int .i64 e.f1, .int .i64 e.f2] 144)
   have hn1 := alloc_new wr (.cells #[.int .i64 e.f0, .int .i64 e.f1, .int .i64 e.f2] 144)
   have HB1 := Lib.hid (HB.out.trans (hb1.mono HB.out.size))
   obtain ⟨q, hq⟩ : ∃ q, wr.heap.size = q := ⟨_, rfl⟩
   rw [hq] at hn1 ⊢
   clear hb1 hq e0 e1 e2 HB
   generalize World.alloc _ _ = W1 at hn1 HB1 ⊢
   have c0 := blk_cell hn1 0
   have c1 := blk_cell hn1 1
   have c2 := blk_cell hn1 2
   simp only [List.getElem?_toArray, List.getElem?_cons_succ, List.getElem?_cons_zero] at c0 c1 c2
   clear hn1
   have g0 : decide (e.f0 < 0) = false := decide_eq_false (by omega)
   have g1 : decide ((n : Int) ≤ e.f0) = false := decide_eq_false (by omega)
   have g2 : decide (e.f1 < 0) = false := decide_eq_false (by omega)
   have g3 : decide ((n : Int) ≤ e.f1) = false := decide_eq_false (by omega)
   have g4 : decide (e.f2 < -1) = false := decide_eq_false (by omega)
   have g5 : decide ((3 : Int) < e.f2) = false := decide_eq_false (by omega)
   clear hok
   go_wp2_with fail
   go_roundw
   case rel => exact ⟨j + 1, by omega, by go_num, HB1.out⟩
   case measure => simp [intOf]; omega
  ·obtain rfl : j = E.length := by omega
   clear hlt hj
   go_wp2_with fail
   obtain ⟨wo, rfl⟩ : ∃ wo : World, wo = wr := ⟨_, rfl⟩
   go_loopw [9] (fun i wr => ∃ j : Nat, j ≤ R.length ∧ i = .int .i64 j ∧ wr = wo) (fun i _ => R.length - (intOf i).toNat)
   case atStart => exact ⟨0, by omega, rfl, by trivial⟩
   case round =>
    obtain ⟨j, hj, rfl, rfl⟩ := hrel
    by_cases hlt : j < R.length
    ·obtain ⟨ad, hAd, hx⟩ := Kd.at_int (Kd.C_below HR.out HB.out) (j : Int) (by omega) (by omega)
     have hor := HOR.out (R.getD j 0) (by rw [List.getD_eq_getElem?_getD, List.getElem?_eq_getElem hlt]; exact List.getElem_mem hlt)
     obtain ⟨x, hx0⟩ : ∃ x, R.getD j 0 = x := ⟨_, rfl⟩
     have hrx : rd R (j : Int) = x := hx0
     rw [hrx, Int.toNat_natCast] at hx
     rw [hx0] at hor
     have g0 : decide (x < 0) = false := decide_eq_false (by omega)
     have g1 : decide ((n : Int) ≤ x) = false := decide_eq_false (by omega)
     subst hAd
     clear hx0 hrx hor
     go_wp2_with fail
     go_roundw
     case rel => exact ⟨j + 1, by omega, by go_num, by trivial⟩
     case measure => simp [intOf]; omega
    ·obtain rfl : j = R.length := by omega
     go_wp2_with fail
     go_ret
     exact ⟨rfl, HB.out⟩
theorem Nv.any {n : Nat} {E : List Edg} {R l : List Int} {i k : Nat} (h : Nv n E R l i true) : Nv n E R l k true := ⟨h.len, h.inw, h.top, h.root, fun e => by cases e⟩
set_option maxRecDepth 100000 in
set_option maxHeartbeats 12800000 in
theorem fromR_any (n : Nat) (Ae : Option Addr) (ce : Nat) (E : List Edg) (Ar : Option Addr) (cr : Nat) (R : List Int) (w : World) (hE : k144.C w Ae E.length E) (hce : E.length ≤ ce) (hR : (Kd.int .i64).C w Ar R.length R) (hcr : R.length ≤ cr)
  (okE' : ∀ e ∈ E, okE n e) (okR : ∀ r ∈ R, 0 ≤ r ∧ r < n) (hn0 : 0 < n) (hn : n ≤ 1048576) (hle : E.length ≤ 2147483647) (hlr : R.length ≤ 2147483647) :
  Calls Tryz.prog 103 #[.int .i64 n, .slice Ae E.length ce, .slice Ar R.length cr] w fun e w' => ∃ v l, e = .returned (.tuple #[v, .int .i64 0]) ∧ IsFrom n E R l ∧ (Kd.int .i64).R 3 w' w.heap.size (fun _ => True) v l ∧ Below w.heap.size w w' := by
 have HRW := Lib.hid (rightW_any n Ae ce E Ar cr R w hE hce hR hcr okE' okR hn hle hlr)
 have HE := Lib.hid hE
 have HR := Lib.hid hR
 have HOE := Lib.hid okE'
 have HOR := Lib.hid okR
 clear hE hR okE' okR
 go_enter Tryz.func103, Tryz.ntmps103
 go_wp2_with fail
 refine HRW.out.mono ?_
 rintro e w1 ⟨rfl, hb1⟩
 have HB1 := Lib.hid hb1
 clear hb1 HRW
 obtain ⟨N, hN⟩ : ∃ N, w.heap.size = N := ⟨_, rfl⟩
 have HN := Lib.hid hN
 rw [hN] at HB1
 clear hN
 go_wp2_with fail
 go_loopw [9, 10] (fun v i wr => ∃ (j : Nat) (A1 : Option Addr) (c1 : Nat), j ≤ n ∧ v = .slice A1 j c1 ∧ i = .int .i64 j ∧ (Kd.int .i64).R 3 wr N (fun _ => True) (.slice A1 j c1) (List.replicate j 9) ∧ Below N w wr) (fun _ i _ => n - (intOf i).toNat)
 case atStart => exact ⟨0, none, 0, by omega, rfl, rfl, Kd.R_nil _ _ _ _ _, HB1.out⟩
 case round =>
  clear HB1
  obtain ⟨j, A1, c1, hj, rfl, rfl, hr, hb⟩ := hrel
  have HX := Lib.hid hr
  have HB := Lib.hid hb
  clear hr hb
  by_cases hlt : j < n
  ·go_wp2_with (first | (at_builtin; refine Kd.R_append (Kd.int .i64) (w0 := w) (W := wr) N rfl (.tmp 26) (.tmp 27) 31 3 (.int .i64 0) 8 rfl Tryz.underlying31 info3 rfl (by decide) (by decide) (.slice A1 j c1) (List.replicate j 9) (9 : Int) [.int .i64 9] (fun _ => True) (fun _ => False) rfl rfl rfl (fun _ h => h.elim) (fun _ _ => trivial) HX.out HB.out (HN.out ▸ HB.out.size) (by simp; omega) ?_; intro u1 w4 hr4 hb4 hg4 hat4; obtain ⟨A2, c2, rfl⟩ := Kd.R_slice hr4; rw [show List.replicate j (9 : Int) ++ [9] = List.replicate (j + 1) 9 from List.replicate_succ'.symm] at hr4; have HX4 := Lib.hid hr4; have HB4 := Lib.hid hb4; clear hr4 hb4 hg4 hat4))
   go_roundw
   case rel => exact ⟨j + 1, A2, c2, by omega, by simp, by go_num, by have := HX4.out; simp only [List.length_append, List.length_replicate, List.length_singleton] at this; exact this, HB4.out⟩
   case measure => simp [intOf]; omega
  ·obtain rfl : j = n := by omega
   clear hlt hj
   obtain ⟨g, cap, hv, hgN, hgl, _⟩ := Kd.R_form HX.out (by simpa using hn0)
   rw [List.length_replicate] at hv
   injection hv with hA _ hc
   subst hA hc
   have HX0 := Lib.hid (show Rooted j (List.replicate j 9) (qTo R 0) from Rooted.start j)
   go_wp2_with fail
   obtain ⟨wo, rfl⟩ : ∃ wo : World, wo = wr := ⟨_, rfl⟩
   go_loopw [11] (fun i wr => ∃ (k : Nat) (l : List Int), k ≤ R.length ∧ i = .int .i64 k ∧ (Kd.int .i64).R 3 wr N (fun _ => True) (.slice (some ⟨g, 0, none⟩) j c1) l ∧ Rooted j l (qTo R k) ∧ Below N w wr) (fun i _ => R.length - (intOf i).toNat)
   case atStart => exact ⟨0, _, by omega, rfl, HX.out, HX0.out, HB.out⟩
   case round =>
    clear HX HB HX0
    obtain ⟨k, l, hk, rfl, hr, hq, hb⟩ := hrel
    have HX := Lib.hid hr
    have HB := Lib.hid hb
    have HQ := Lib.hid hq
    clear hr hq hb
    by_cases hlt : k < R.length
    ·obtain ⟨ad, hAd, hx⟩ := Kd.at_int (Kd.C_below HR.out (HN.out ▸ HB.out)) (k : Int) (by omega) (by omega)
     have hor := HOR.out (R.getD k 0) (by rw [List.getD_eq_getElem?_getD, List.getElem?_eq_getElem hlt]; exact List.getElem_mem hlt)
     obtain ⟨x, hx0⟩ : ∃ x : Nat, R.getD k 0 = (x : Int) := ⟨(R.getD k 0).toNat, by omega⟩
     have hrx : rd R (k : Int) = (x : Int) := hx0
     rw [hrx, Int.toNat_natCast] at hx
     rw [hx0] at hor
     have hl := HQ.out.len
     obtain ⟨hc, hz⟩ := Kd.R_cell (0 : Int) (by have := HX.out; rwa [show j = l.length from hl.symm] at this) (x : Int) (by omega) (by omega)
     rw [Int.toNat_natCast] at hc hz
     have HX0 := Lib.hid hx0
     have hxj : x < j := by omega
     have hcap := (Kd.R_reads' HX.out).2.1
     subst hAd
     clear hx0 hrx hor
     go_wp2_with fail
     go_roundw
     case rel =>
      have hp := Kd.R_putn HX.out (x : Int) 0
      rw [Int.toNat_natCast] at hp
      have ha := HQ.out.add (r := (x : Int)) (by omega) (by omega)
      rw [Int.toNat_natCast] at ha
      exact ⟨k + 1, l.set x 0, by omega, by go_num, hp, by unfold qTo; rw [HX0.out]; exact ha, HB.out.setCell hgN _⟩
     case measure => simp [intOf]; omega
    ·obtain rfl : k = R.length := by omega
     clear hlt hk
     have HV0 := Lib.hid (HQ.out.naive HOE.out (fun r hr => ⟨(HOR.out r hr).1, (mem_qTo R.length (Nat.le_refl _)).2 (by rwa [List.take_length])⟩) (fun r hr => by
      have := (mem_qTo R.length (Nat.le_refl _)).1 hr
      rwa [List.take_length] at this) true)
     clear HQ
     go_wp2_with fail
     obtain ⟨wq, rfl⟩ : ∃ wq : World, wq = wr := ⟨_, rfl⟩
     go_loopg [12] (fall l + 1) (fun kq v12 w' => ∃ (l' : List Int) (m : Bool), Hid (v12 = .bool m) ∧ Hid (kq = fall l' + (if m then 1 else 0)) ∧ Hid (Nv j E R l' E.length m) ∧ Hid ((Kd.int .i64).R 3 w' N (fun _ => True) (.slice (some ⟨g, 0, none⟩) j c1) l') ∧ Hid (Below N w w'))
     case atStart => exact ⟨l, true, Lib.hid rfl, Lib.hid rfl, Lib.hid HV0.out.any, HX, HB⟩
     case round =>
      clear HV0 HX HB
      obtain ⟨l, m, hv, HK0, HV, HX, HB⟩ := hrel
      obtain rfl := hv.out
      clear hv
      cases m with
      | false =>
       go_wp2_with fail
       go_ret2
       exact ⟨_, l, rfl, HV.out.done, HN.out ▸ HX.out, HN.out ▸ HB.out⟩
      | true =>
       go_wp2_with fail
       obtain ⟨wp, rfl⟩ : ∃ wp : World, wp = wr := ⟨_, rfl⟩
       obtain ⟨F0, hF0⟩ : ∃ F0, fall l = F0 := ⟨_, rfl⟩
       have HF0 := Lib.hid hF0
       go_loopw [12, 13] (fun u i wr => ∃ (k : Nat) (l' : List Int) (m : Bool), k ≤ E.length ∧ u = .bool m ∧ i = .int .i64 k ∧ (Kd.int .i64).R 3 wr N (fun _ => True) (.slice (some ⟨g, 0, none⟩) j c1) l' ∧ Nv j E R l' k m ∧ fall l' + (if m then 1 else 0) ≤ F0 ∧ Below N w wr) (fun _ i _ => E.length - (intOf i).toNat)
       case atStart => exact ⟨0, l, false, by omega, rfl, rfl, HX.out, HV.out.next, by rw [hF0]; exact Nat.le_refl _, HB.out⟩
       case round =>
        rw [hF0] at HK0
        clear HV HX HB hF0
        obtain ⟨k, l2, m, hk, rfl, rfl, hr, hn, hf, hb⟩ := hrel
        have HX := Lib.hid hr
        have HB := Lib.hid hb
        have HV := Lib.hid hn
        have HFA := Lib.hid hf
        have hl := hn.len
        clear hr hb hn hf
        by_cases hlt : k < E.length
        ·obtain ⟨ad, hAd, e0, e1, e2⟩ := at_T144 (Kd.C_below HE.out (HN.out ▸ HB.out)) (k : Int) (by omega) (by omega)
         have hok := HOE.out _ (getD_memE hlt)
         obtain ⟨e, he0⟩ : ∃ e, e = E.getD k zE := ⟨_, rfl⟩
         have her : rd_T144 E (k : Int) = e := by rw [rd_T144, Int.toNat_natCast]; exact he0.symm
         rw [← he0] at hok
         rw [her, Int.toNat_natCast] at e0 e1 e2
         unfold okE at hok
         have HE0 := Lib.hid he0
         obtain ⟨a, ha⟩ : ∃ a : Nat, e.f0 = (a : Int) := ⟨e.f0.toNat, by omega⟩
         obtain ⟨y, hy⟩ : ∃ y : Nat, e.f1 = (y : Int) := ⟨e.f1.toNat, by omega⟩
         have haj : a < j := by omega
         have hyj : y < j := by omega
         have HAY := Lib.hid (And.intro ha hy)
         rw [ha] at e0
         rw [hy] at e1
         have hx' := HX.out
         rw [show j = l2.length from hl.symm] at hx'
         obtain ⟨ca, _⟩ := Kd.R_cell (0 : Int) hx' (a : Int) (by omega) (by omega)
         obtain ⟨cy, zy⟩ := Kd.R_cell (0 : Int) hx' (y : Int) (by omega) (by omega)
         rw [Int.toNat_natCast] at ca cy zy
         have r9 : ∀ q : Nat, q < j → rdOf 0 l2 (q : Int) = l2.getD q 9 := fun q hq => by
          rw [rdOf, Int.toNat_natCast, List.getD_eq_getElem?_getD, List.getD_eq_getElem?_getD, List.getElem?_eq_getElem (by omega)]; rfl
         rw [r9 a haj] at ca
         rw [r9 y hyj] at cy
         obtain ⟨p, hp⟩ : ∃ p, p = l2.getD a 9 := ⟨_, rfl⟩
         obtain ⟨o, ho⟩ : ∃ o, o = l2.getD y 9 := ⟨_, rfl⟩
         rw [← hp] at ca
         rw [← ho] at cy
         have HP := Lib.hid hp
         have HO := Lib.hid ho
         have hcap := (Kd.R_reads' HX.out).2.1
         subst hAd
         clear he0 her hok ha hy hx' r9 hp ho
         go_upto_region 19 with (fail)
         go_still_tail 13, (by kernel_rfl)
         change wpList _ _ _ _ _ wr.drew
         go_wp2_with fail
         refine (plusR_any p e.f2 wr.drew).mono ?_
         rintro r w9 ⟨rfl, rfl⟩
         obtain ⟨d, hd⟩ : ∃ d, d = plus p e.f2 := ⟨_, rfl⟩
         rw [← hd]
         have HD := Lib.hid hd
         clear hd
         have HXD := Lib.hid (show (Kd.int .i64).R 3 wr.drew N (fun _ => True) (.slice (some ⟨g, 0, none⟩) j c1) l2 from Kd.R_below HX.out (below_drew (Below.refl _ _)))
         have HBD := Lib.hid (below_drew HB.out)
         clear HX HB
         by_cases hlow : d < o
         ·have dl : decide (d < o) = true := decide_eq_true hlow
          have HLO := Lib.hid hlow
          clear hlow
          go_wp2_with fail
          go_roundw
          case rel =>
           have hp := Kd.R_putn HXD.out (y : Int) d
           rw [Int.toNat_natCast] at hp
           obtain ⟨h1, h2⟩ := HV.out.lower HOE.out hlt (by rw [← HE0.out, HAY.out.1, HAY.out.2, Int.toNat_natCast, Int.toNat_natCast, ← HP.out, ← HO.out, ← HD.out]; exact HLO.out)
           rw [← HE0.out, HAY.out.1, HAY.out.2, Int.toNat_natCast, Int.toNat_natCast, ← HP.out, ← HD.out] at h1 h2
           have hf := HFA.out
           exact ⟨k + 1, l2.set y d, true, by omega, rfl, by go_num, hp, h1, by split at hf <;> simp <;> omega, HBD.out.setCell hgN _⟩
          case measure => simp [intOf]; omega
         ·have dl : decide (d < o) = false := decide_eq_false hlow
          have HLO := Lib.hid hlow
          clear hlow
          go_wp2_with fail
          go_roundw
          case rel =>
           have h1 := HV.out.keep (by rw [← HE0.out, HAY.out.1, HAY.out.2, Int.toNat_natCast, Int.toNat_natCast, ← HP.out, ← HO.out, ← HD.out]; have := HLO.out; omega)
           exact ⟨k + 1, l2, m, by omega, rfl, by go_num, HXD.out, h1, HFA.out, HBD.out⟩
          case measure => simp [intOf]; omega
        ·obtain rfl : k = E.length := by omega
         clear hlt hk
         go_wp2_with fail
         go_roundg (fall l2 + (if m then 1 else 0))
         case rel => exact ⟨l2, m, Lib.hid rfl, Lib.hid rfl, HV, HX, HB⟩
         case measure =>
          rw [HK0.out]
          have := HFA.out
          simp at this ⊢
          omega
set_option maxHeartbeats 3200000 in
theorem flowsR_any (n : Nat) (Ae : Option Addr) (ce : Nat) (E : List Edg) (Ar : Option Addr) (cr : Nat) (R : List Int) (w : World) (hE : k144.C w Ae E.length E) (hce : E.length ≤ ce) (hR : (Kd.int .i64).C w Ar R.length R) (hcr : R.length ≤ cr)
  (okE' : ∀ e ∈ E, okE n e) (okR : ∀ r ∈ R, 0 ≤ r ∧ r < n) (hn0 : 0 < n) (hn : n ≤ 1048576) (hle : E.length ≤ 2147483647) (hlr : R.length ≤ 2147483647) :
  Calls Tryz.prog 50 #[.int .i64 n, .slice Ae E.length ce, .slice Ar R.length cr] w fun e w' => ∃ v l, e = .returned v ∧ IsFrom n E R l ∧ (Kd.int .i64).R 3 w' w.heap.size (fun _ => True) v l ∧ Below w.heap.size w w' := by
 have HF := Lib.hid (fromR_any n Ae ce E Ar cr R w hE hce hR hcr okE' okR hn0 hn hle hlr)
 clear hE hR okE' okR
 go_enter Tryz.func50, Tryz.ntmps50
 go_wp2_with fail
 refine HF.out.mono ?_
 rintro e w3 ⟨v, l, rfl, hl, hr, hb3⟩
 obtain ⟨Ah, ch, rfl⟩ := Kd.R_slice hr
 have HL := Lib.hid hl
 have HR := Lib.hid hr
 have HB := Lib.hid hb3
 clear hl hr hb3
 go_wp2_with fail
 go_ret
 exact ⟨_, l, rfl, HL.out, HR.out, HB.out⟩
set_option maxRecDepth 100000 in
set_option maxHeartbeats 6400000 in
theorem heapsR_any (A : Option Addr) (c : Nat) (l : List Bool) (w : World) (hC : Kd.bool.C w A l.length l) (hc : l.length ≤ c) (hn : l.length ≤ 1048576) :
  Calls Tryz.prog 51 #[.slice A l.length c] w fun e w' => ∃ v, e = .returned v ∧ (Kd.int .i64).R 3 w' w.heap.size (fun _ => True) v (rootsB l) ∧ Below w.heap.size w w' := by
 have HC := Lib.hid hC
 clear hC
 go_enter Tryz.func51, Tryz.ntmps51
 go_upto_region 2 with (fail)
 have hb3 := below1 w (.cells #[.int .i64 0] 3)
 have HRW := Lib.hid (root_row w w.heap.size (Nat.le_refl _))
 have HB3 := Lib.hid hb3
 obtain ⟨N, hN⟩ : ∃ N, w.heap.size = N := ⟨_, rfl⟩
 have HN := Lib.hid hN
 rw [hN] at HRW HB3 ⊢
 clear hb3 hN
 generalize World.alloc _ _ = W3 at HRW HB3 ⊢
 go_wp2_with fail
 go_loopw [3, 4] (fun u i wq => ∃ j : Nat, j ≤ l.length ∧ i = .int .i64 j ∧ (Kd.int .i64).R 3 wq N (fun _ => True) u (rootsTo l j) ∧ Below N w wq) (fun u i _ => l.length - (intOf i).toNat)
 case atStart => exact ⟨0, by omega, rfl, HRW.out, HB3.out⟩
 case round =>
  clear HRW HB3
  obtain ⟨j, hj, rfl, hu, hB⟩ := hrel
  have HU := Lib.hid hu
  have HBq := Lib.hid hB
  clear hu hB
  obtain ⟨Au, cu, rfl⟩ := Kd.R_slice HU.out
  by_cases hlt : j < l.length
  ·obtain ⟨ad, hA, he⟩ := Kd.at_bool (Kd.C_below HC.out (HN.out ▸ HBq.out)) (j : Int) (by omega) (by omega)
   obtain ⟨eb, heb⟩ : ∃ eb, eb = l.getD j false := ⟨_, rfl⟩
   have hrd : rdOf false l (j : Int) = eb := by rw [heb, rdOf, Int.toNat_natCast]
   rw [hrd, Int.toNat_natCast] at he
   have hrl := roots_length l j
   have HS := Lib.hid (show rootsTo l (j + 1) = if eb then rootsTo l j ++ [(j : Int)] else rootsTo l j by rw [heb]; rfl)
   subst hA
   clear heb hrd
   cases eb with
   | true =>
    go_wp2_with (first | (at_builtin; refine Kd.R_append (Kd.int .i64) (w0 := w) (W := wr) N rfl (.tmp 16) (.tmp 18) 31 3 (.int .i64 0) 8 rfl Tryz.underlying31 info3 rfl (by decide) (by decide) (.slice Au (rootsTo l j).length cu) (rootsTo l j) (j : Int) [.int .i64 j] (fun _ => True) (fun _ => False) rfl rfl rfl (fun _ h => h.elim) (fun _ _ => trivial) HU.out HBq.out (HN.out ▸ HBq.out.size) (by omega) ?_; intro u1 w4 hr4 hb4 hg4 hat4; have HU4 := Lib.hid hr4; have HB4 := Lib.hid hb4; clear hr4 hb4 hg4 hat4))
    go_roundw
    case rel => exact ⟨j + 1, by omega, by go_num, by rw [HS.out]; exact HU4.out, HB4.out⟩
    case measure => simp [intOf]; omega
   | false =>
    go_wp2_with fail
    go_roundw
    case rel => exact ⟨j + 1, by omega, by go_num, by rw [HS.out]; exact HU.out, HBq.out⟩
    case measure => simp [intOf]; omega
  ·obtain rfl : j = l.length := by omega
   go_wp2_with fail
   go_ret
   exact ⟨_, rfl, HN.out ▸ HU.out, HN.out ▸ HBq.out⟩
theorem HeapIs.one {n : Nat} {r : Int} {E : List Edg} {rs : List (List Int)} {esc esc' : List Bool} {h h' : List Int} (a : HeapIs n r E rs esc h) (b : HeapIs n r E rs esc' h') (hE : ∀ e ∈ E, okE n e) : esc' = esc := by
 have hr : LeE E E := fun e he => ⟨e, he, rfl, rfl, Int.le_refl _⟩
 have m1 := a.mono b (Nat.le_refl _) hE hE hr (fun fl hfl => ⟨fl, hfl, fun _ _ h => h⟩)
 have m2 := b.mono a (Nat.le_refl _) hE hE hr (fun fl hfl => ⟨fl, hfl, fun _ _ h => h⟩)
 have l1 := a.len
 have l2 := b.len
 apply List.ext_getElem (by omega)
 intro i h1 h2
 have e1 := m1 i
 have e2 := m2 i
 simp only [List.getD_eq_getElem?_getD, List.getElem?_eq_getElem h1, List.getElem?_eq_getElem h2, Option.getD_some] at e1 e2
 cases h3 : esc'[i] <;> cases h4 : esc[i] <;> simp_all
theorem escTo_low (r : Int) (fl : List Int) (l : List Bool) : ∀ k : Nat, (k : Int) ≤ 1 + r → escTo r fl l k = l
 | 0, _ => rfl
 | k + 1, h => by
  unfold escTo
  rw [if_neg (by omega)]
  exact escTo_low r fl l k (by omega)
theorem newTo_low (r : Int) (fl : List Int) (l : List Bool) : ∀ k : Nat, (k : Int) ≤ 1 + r → newTo r fl l k = 0
 | 0, _ => rfl
 | k + 1, h => by
  unfold newTo
  rw [if_neg (by omega)]
  exact newTo_low r fl l k (by omega)
theorem set_same (l : List Bool) (i : Nat) (b : Bool) (h : l.getD i false = b) (hi : i < l.length) : l.set i b = l := by
 apply List.ext_getElem (by simp)
 intro j h1 h2
 rw [List.getElem_set]
 split
 ·subst j
  rw [← h, List.getD_eq_getElem?_getD, List.getElem?_eq_getElem hi]; rfl
 ·rfl
theorem escTo_write (r : Int) (fl : List Int) (l : List Bool) (x : Nat) (hx : x < l.length) (h1 : 1 + r ≤ (x : Int)) : escTo r fl l (x + 1) = (escTo r fl l x).set x (l.getD x false || decide (fl.getD x 0 = -1)) := by
 have hs := escTo_self r fl l x x (Nat.le_refl _) (by omega)
 have hl := escTo_length r fl l x
 have e : escTo r fl l (x + 1) = if 1 + r ≤ (x : Int) ∧ fl.getD x 0 = -1 ∧ l.getD x false = false then (escTo r fl l x).set x true else escTo r fl l x := rfl
 rw [e]
 by_cases h2 : fl.getD x 0 = -1
 ·cases h3 : l.getD x false with
  | false => rw [if_pos ⟨h1, h2, rfl⟩, decide_eq_true h2]; rfl
  | true =>
   rw [if_neg (by simp), Bool.true_or]
   exact (set_same _ _ _ (by rw [hs, h3]) (by omega)).symm
 ·rw [if_neg (fun h => h2 h.2.1), decide_eq_false h2, Bool.or_false]
  exact (set_same _ _ _ hs (by omega)).symm
theorem newTo_more (r : Int) (fl : List Int) (l : List Bool) (x : Nat) (h1 : 1 + r ≤ (x : Int)) : decide (0 < newTo r fl l (x + 1)) = (decide (0 < newTo r fl l x) || (!(l.getD x false) && decide (fl.getD x 0 = -1))) := by
 have e : newTo r fl l (x + 1) = if 1 + r ≤ (x : Int) ∧ fl.getD x 0 = -1 ∧ l.getD x false = false then newTo r fl l x + 1 else newTo r fl l x := rfl
 rw [e]
 by_cases h2 : fl.getD x 0 = -1
 ·cases h3 : l.getD x false with
  | false => rw [if_pos ⟨h1, h2, rfl⟩, decide_eq_true h2]; simp
  | true => rw [if_neg (by simp)]; simp
 ·rw [if_neg (fun h => h2 h.2.1), decide_eq_false h2]; simp
theorem row_one (x : Int) (W : World) : (Kd.int .i64).C (W.alloc (.cells #[.int .i64 x] 3)) (some ⟨W.heap.size, 0, none⟩) 1 [x] := by
 have h : (Kd.int .i64).R 3 (W.alloc (.cells #[.int .i64 x] 3)) W.heap.size (fun _ => True) (.slice (some ⟨W.heap.size, 0, none⟩) 1 1) [x] :=
  ⟨fun _ _ => trivial, OwnRow.lit (ps := [x]) (inner := [.int .i64 x]) W W.heap.size ⟨rfl, fun j q hq => by
   have hj := (List.getElem?_eq_some_iff.1 hq).1
   obtain rfl : j = 0 := by simp at hj; exact hj
   obtain rfl : x = q := by simpa using hq
   rfl⟩ (Nat.le_refl _) (by simp)⟩
 exact (Kd.R_reads' h).2.2
theorem R_besideB {W : World} {g n c N M : Nat} {l : List Bool} {v : Value} {xs : List Int} (h : (Kd.int .i64).R 3 W M (fun _ => True) v xs) (hl : Kd.bool.R 4 W N (fun _ => True) (.slice (some ⟨g, 0, none⟩) n c) l) (i : Nat) (u : Value) : (Kd.int .i64).R 3 (W.setCell ⟨g, i, none⟩ u) M (fun _ => True) v xs := by
 obtain ⟨cs, hg⟩ := Kd.R_typed hl g rfl
 exact Kd.R_set h hg (fun q hq => by
  rcases List.mem_cons.1 hq with rfl | hq
  ·decide
  ·cases hq) i u
set_option maxRecDepth 100000 in
set_option maxHeartbeats 25600000 in
theorem escapesR_any (n r : Nat) (Ae : Option Addr) (ce : Nat) (E : List Edg) (rs : List (List Int)) (esc : List Bool) (h : List Int) (w : World) (hH : HeapIs n r E rs esc h) (hrl : rs.length = r) (hrs : ∀ j, j < r → IsFrom n E [1 + (j : Int)] (rs.getD j []))
  (hE : k144.C w Ae E.length E) (hce : E.length ≤ ce) (okE' : ∀ e ∈ E, okE n e) (hn : n ≤ 1048575) (hr4 : r ≤ 4) (hrn : 1 + r ≤ n) (hle : E.length ≤ 2147483647) :
  Calls Tryz.prog 49 #[.int .i64 n, .int .i64 r, .slice Ae E.length ce] w fun e w' => ∃ v, e = .returned v ∧ Kd.bool.R 4 w' w.heap.size (fun _ => True) v esc ∧ Below w.heap.size w w' := by
 have HH := Lib.hid hH
 have HRS := Lib.hid hrs
 have HE := Lib.hid hE
 have HOE := Lib.hid okE'
 have HRL := Lib.hid hrl
 clear hH hrs hE okE' hrl
 go_enter Tryz.func49, Tryz.ntmps49
 obtain ⟨N, hN⟩ : ∃ N, w.heap.size = N := ⟨_, rfl⟩
 have HN := Lib.hid hN
 rw [hN]
 clear hN
 go_wp2_with fail
 go_loopw [7, 8] (fun v i wr => ∃ (j : Nat) (A1 : Option Addr) (c1 : Nat), j ≤ n ∧ v = .slice A1 j c1 ∧ i = .int .i64 j ∧ Kd.bool.R 4 wr N (fun _ => True) (.slice A1 j c1) (List.replicate j false) ∧ Below N w wr) (fun _ i _ => n - (intOf i).toNat)
 case atStart => exact ⟨0, none, 0, by omega, rfl, rfl, Kd.R_nil _ _ _ _ _, Below.refl _ _⟩
 case round =>
  obtain ⟨j, A1, c1, hj, rfl, rfl, hr, hb⟩ := hrel
  have HX := Lib.hid hr
  have HB := Lib.hid hb
  clear hr hb
  by_cases hlt : j < n
  ·go_wp2_with (first | (at_builtin; refine Kd.R_append Kd.bool (w0 := w) (W := wr) N rfl (.tmp 20) (.tmp 21) 30 4 (.bool false) 1 rfl Tryz.underlying30 info_bool rfl (by decide) (by decide) (.slice A1 j c1) (List.replicate j false) false [.bool false] (fun _ => True) (fun _ => False) rfl rfl rfl (fun _ h => h.elim) (fun _ _ => trivial) HX.out HB.out (HN.out ▸ HB.out.size) (by simp; omega) ?_; intro u1 w4 hr4 hb4 hg4 hat4; obtain ⟨A2, c2, rfl⟩ := Kd.R_slice hr4; rw [show List.replicate j false ++ [false] = List.replicate (j + 1) false from List.replicate_succ'.symm] at hr4; have HX4 := Lib.hid hr4; have HB4 := Lib.hid hb4; clear hr4 hb4 hg4 hat4))
   go_roundw
   case rel => exact ⟨j + 1, A2, c2, by omega, by simp, by go_num, by have := HX4.out; simp only [List.length_append, List.length_replicate, List.length_singleton] at this; exact this, HB4.out⟩
   case measure => simp [intOf]; omega
  ·obtain rfl : j = n := by omega
   clear hlt hj
   obtain ⟨g, cap, hv, hgN, hgl, _⟩ := Kd.R_form HX.out (by simp; omega)
   rw [List.length_replicate] at hv
   injection hv with hA _ hc
   subst hA hc
   have HES := Lib.hid (EscIs.start j r E rs)
   go_wp2_with fail
   obtain ⟨wo, rfl⟩ : ∃ wo : World, wo = wr := ⟨_, rfl⟩
   go_loopw [9] (fun i wr => ∃ (k : Nat) (l : List Bool), k ≤ r ∧ i = .int .i64 k ∧ EscIs j r E rs k l ∧ Kd.bool.R 4 wr N (fun _ => True) (.slice (some ⟨g, 0, none⟩) j c1) l ∧ Below N w wr) (fun i _ => r - (intOf i).toNat)
   case atStart => exact ⟨0, _, by omega, rfl, HES.out, HX.out, HB.out⟩
   case round =>
    clear HX HB HES
    obtain ⟨k, l, hk, rfl, hq, hr, hb⟩ := hrel
    have HX := Lib.hid hr
    have HB := Lib.hid hb
    have HQ := Lib.hid hq
    have hll := hq.len
    clear hr hb hq
    by_cases hlt : k < r
    ·have hbA := below1 wr (.cells #[.int .i64 (1 + (k : Int))] 3)
     have hbW := HB.out.trans (hbA.mono (HN.out ▸ HB.out.size))
     have HFW := flowsR_any j Ae ce E (some ⟨wr.heap.size, 0, none⟩) 1 [1 + (k : Int)] (wr.alloc (.cells #[.int .i64 (1 + (k : Int))] 3)) (Kd.C_below HE.out (HN.out ▸ hbW)) hce (row_one _ _) (Nat.le_refl _) HOE.out (fun x hx => by
      obtain rfl := List.mem_singleton.1 hx
      omega) (by omega) (by omega) hle (by simp)
     simp only [List.length_singleton] at HFW
     have HFV := Lib.hid HFW
     have HBW := Lib.hid hbW
     have HXA := Lib.hid (Kd.R_below HX.out hbA)
     clear HFW hbA hbW
     go_wp2_with fail
     refine HFV.out.mono ?_
     rintro e w7 ⟨v, fl, rfl, hl, hrv, hb7⟩
     obtain rfl := hl.one (HRS.out k hlt)
     have hfl := hl.len
     obtain ⟨Ah, ch, rfl⟩ := Kd.R_slice hrv
     have HX7 := Lib.hid (Kd.R_below HXA.out hb7)
     have HB7 := Lib.hid (HBW.out.trans (hb7.mono (HN.out ▸ HBW.out.size)))
     have HRV := Lib.hid (Kd.R_lower hrv (Nat.zero_le _))
     obtain ⟨fl, hfd⟩ : ∃ fl, fl = rs.getD k [] := ⟨_, rfl⟩
     rw [← hfd] at HRV hfl ⊢
     have HFD := Lib.hid hfd
     rw [hfl] at HRV ⊢
     clear hl hrv hb7 HFV HX HXA HB HBW hfd
     go_wp2_with fail
     obtain ⟨wp, rfl⟩ : ∃ wp : World, wp = w7 := ⟨_, rfl⟩
     go_loopw [11] (fun i wr => ∃ x : Nat, 1 + r ≤ x ∧ x ≤ j ∧ i = .int .i64 x ∧ Kd.bool.R 4 wr N (fun _ => True) (.slice (some ⟨g, 0, none⟩) j c1) (escTo r fl l x) ∧ (Kd.int .i64).R 3 wr 0 (fun _ => True) (.slice Ah j ch) fl ∧ Below N w wr) (fun i _ => j - (intOf i).toNat)
     case atStart => exact ⟨1 + r, Nat.le_refl _, hrn, by simp, by rw [escTo_low r fl l (1 + r) (by omega)]; exact HX7.out, HRV.out, HB7.out⟩
     case round =>
      clear HX7 HRV HB7
      obtain ⟨x, hx1, hx, rfl, hr, hv, hb⟩ := hrel
      have HX := Lib.hid hr
      have HV := Lib.hid hv
      have HB := Lib.hid hb
      clear hr hv hb
      have hel := escTo_length r fl l x
      by_cases hltx : x < j
      ·have hx' := HX.out
       rw [show j = (escTo r fl l x).length by omega] at hx'
       obtain ⟨ca, za⟩ := Kd.R_cell false hx' (x : Int) (by omega) (by omega)
       obtain ⟨ad, hA, cf⟩ := Kd.at_int (Kd.R_reads' HV.out).2.2 (x : Int) (by omega) (by omega)
       have hs := escTo_self r fl l x x (Nat.le_refl _) (by omega)
       have hrd : rdOf false (escTo r fl l x) (x : Int) = l.getD x false := by rw [rdOf, Int.toNat_natCast]; exact hs
       rw [hrd, Int.toNat_natCast] at ca
       rw [Int.toNat_natCast] at za cf
       have hfx : rd fl (x : Int) = fl.getD x 0 := rfl
       rw [hfx] at cf
       have HW := Lib.hid (escTo_write r fl l x (by omega) (by omega))
       obtain ⟨eb, heb⟩ : ∃ eb, l.getD x false = eb := ⟨_, rfl⟩
       obtain ⟨fx, hfx0⟩ : ∃ fx, fl.getD x 0 = fx := ⟨_, rfl⟩
       rw [heb, hfx0] at HW
       rw [heb] at ca
       rw [hfx0] at cf
       have hcap := (Kd.R_reads' HX.out).2.1
       subst hA
       clear hx' hs hrd hfx heb hfx0
       cases eb with
       | true =>
        go_wp2_with fail
        go_roundw
        case rel =>
         have hp := Kd.R_putn HX.out (x : Int) true
         rw [Int.toNat_natCast] at hp
         exact ⟨x + 1, by omega, by omega, by go_num, by rw [HW.out]; exact hp, R_besideB HV.out HX.out _ _, HB.out.setCell hgN _⟩
        case measure => simp [intOf]; omega
       | false =>
        obtain ⟨fb, hfb⟩ : ∃ fb, (fx == -1) = fb := ⟨_, rfl⟩
        have hfb2 : decide (fx = -1) = fb := by rw [← hfb]; rfl
        rw [hfb2] at HW
        clear hfb2
        go_wp2_with fail
        go_roundw
        case rel =>
         have hp := Kd.R_putn HX.out (x : Int) fb
         rw [Int.toNat_natCast] at hp
         exact ⟨x + 1, by omega, by omega, by go_num, by rw [HW.out]; exact hp, R_besideB HV.out HX.out _ _, HB.out.setCell hgN _⟩
        case measure => simp [intOf]; omega
      ·obtain rfl : x = j := by omega
       go_wp2_with fail
       go_roundw
       case rel =>
        have := HQ.out.result (by rw [HRL.out]; exact hlt)
        rw [← HFD.out] at this
        exact ⟨k + 1, _, by omega, by go_num, this, HX.out, HB.out⟩
       case measure => simp [intOf]; omega
    ·obtain rfl : k = r := by omega
     clear hlt hk
     go_wp2_with fail
     obtain ⟨wq, rfl⟩ : ∃ wq : World, wq = wr := ⟨_, rfl⟩
     have HQ0 : Hid (EscIs j k E rs rs.length l) := Lib.hid (by rw [HRL.out]; exact HQ.out)
     clear HQ
     go_loopg [12] (j - l.count true + 1) (fun kq v12 w' => ∃ (l' : List Bool) (m : Bool), Hid (v12 = .bool m) ∧ Hid (kq = (j - l'.count true) + (if m then 1 else 0)) ∧ Hid (EscIs j k E rs rs.length l') ∧ Hid (m = false → l' = esc) ∧ Hid (Kd.bool.R 4 w' N (fun _ => True) (.slice (some ⟨g, 0, none⟩) j c1) l') ∧ Hid (Below N w w'))
     case atStart => exact ⟨l, true, Lib.hid rfl, Lib.hid rfl, HQ0, Lib.hid (fun e => by cases e), HX, HB⟩
     case round =>
      clear HQ0 HX HB hll l
      obtain ⟨l, m, hv, HK0, HQ, HM, HX, HB⟩ := hrel
      obtain rfl := hv.out
      clear hv
      have hll := HQ.out.len
      cases m with
      | false =>
       have HL := Lib.hid (HM.out rfl)
       go_wp2_with fail
       go_ret
       exact ⟨_, rfl, by rw [← HL.out]; exact HX.out, HB.out⟩
      | true =>
       have HC := Lib.hid (Kd.R_reads' HX.out)
       have hcap := HC.out.2.1
       have hhp := heapsR_any (some ⟨g, 0, none⟩) c1 l wr HC.out.2.2 (by omega) (by omega)
       rw [hll] at hhp
       have HHP := Lib.hid hhp
       clear hhp
       go_wp2_with fail
       refine HHP.out.mono ?_
       rintro e w5 ⟨v, rfl, hrv, hb5⟩
       obtain ⟨rt, hrt⟩ : ∃ rt, rootsB l = rt := ⟨_, rfl⟩
       rw [hrt] at hrv
       obtain ⟨Ar, cr, rfl⟩ := Kd.R_slice hrv
       have hrl : rt.length ≤ j + 1 := by rw [← hrt, rootsB, hll]; exact roots_length l j
       have hrm : ∀ x ∈ rt, 0 ≤ x ∧ x < j := fun x hx => by
        rw [← hrt, rootsB, hll] at hx
        rcases (mem_roots l x j).1 hx with h0 | ⟨q, hq, _, h0⟩ <;> omega
       have HRT := Lib.hid hrt
       have hbw := HB.out.trans (hb5.mono (HN.out ▸ HB.out.size))
       have HFW := Lib.hid (flowsR_any j Ae ce E Ar cr rt w5 (Kd.C_below HE.out (HN.out ▸ hbw)) hce (Kd.R_reads' hrv).2.2 (Kd.R_reads' hrv).2.1 HOE.out hrm (by omega) (by omega) hle (by omega))
       have HX5 := Lib.hid (Kd.R_below HX.out hb5)
       have HB5 := Lib.hid hbw
       clear hrv hb5 hbw HHP HC HX HB hrt hrm
       go_wp2_with fail
       refine HFW.out.mono ?_
       rintro e w7 ⟨v, fl, rfl, hl, hrv, hb7⟩
       have hfl := hl.len
       obtain ⟨Ah, ch, rfl⟩ := Kd.R_slice hrv
       rw [hfl] at hrv ⊢
       have HX7 := Lib.hid (Kd.R_below HX5.out hb7)
       have HB7 := Lib.hid (HB5.out.trans (hb7.mono (HN.out ▸ HB5.out.size)))
       have HRV := Lib.hid (Kd.R_lower hrv (Nat.zero_le _))
       have HFL := Lib.hid (show IsFrom j E (rootsB l) fl by rw [HRT.out]; exact hl)
       clear hl hrv hb7 HFW HX5 HB5
       go_wp2_with fail
       obtain ⟨wp, rfl⟩ : ∃ wp : World, wp = w7 := ⟨_, rfl⟩
       go_loopw [12, 14] (fun u i wr => ∃ x : Nat, 1 + k ≤ x ∧ x ≤ j ∧ u = .bool (decide (0 < newTo k fl l x)) ∧ i = .int .i64 x ∧ Kd.bool.R 4 wr N (fun _ => True) (.slice (some ⟨g, 0, none⟩) j c1) (escTo k fl l x) ∧ (Kd.int .i64).R 3 wr 0 (fun _ => True) (.slice Ah j ch) fl ∧ Below N w wr) (fun _ i _ => j - (intOf i).toNat)
       case atStart => exact ⟨1 + k, Nat.le_refl _, hrn, by rw [newTo_low k fl l (1 + k) (by omega)]; rfl, by simp, by rw [escTo_low k fl l (1 + k) (by omega)]; exact HX7.out, HRV.out, HB7.out⟩
       case round =>
        clear HX7 HRV HB7
        obtain ⟨x, hx1, hx, rfl, rfl, hr, hv, hb⟩ := hrel
        have HX := Lib.hid hr
        have HV := Lib.hid hv
        have HB := Lib.hid hb
        clear hr hv hb
        have hel := escTo_length k fl l x
        by_cases hltx : x < j
        ·have hx' := HX.out
         rw [show j = (escTo k fl l x).length by omega] at hx'
         obtain ⟨ca, za⟩ := Kd.R_cell false hx' (x : Int) (by omega) (by omega)
         obtain ⟨ad, hA, cf⟩ := Kd.at_int (Kd.R_reads' HV.out).2.2 (x : Int) (by omega) (by omega)
         have hs := escTo_self k fl l x x (Nat.le_refl _) (by omega)
         have hrd : rdOf false (escTo k fl l x) (x : Int) = l.getD x false := by rw [rdOf, Int.toNat_natCast]; exact hs
         rw [hrd, Int.toNat_natCast] at ca
         rw [Int.toNat_natCast] at za cf
         have hfx : rd fl (x : Int) = fl.getD x 0 := rfl
         rw [hfx] at cf
         have HW := Lib.hid (escTo_write k fl l x (by omega) (by omega))
         have HNW := Lib.hid (newTo_more k fl l x (by omega))
         obtain ⟨eb, heb⟩ : ∃ eb, l.getD x false = eb := ⟨_, rfl⟩
         obtain ⟨fx, hfx0⟩ : ∃ fx, fl.getD x 0 = fx := ⟨_, rfl⟩
         obtain ⟨nb, hnb⟩ : ∃ nb, decide (0 < newTo k fl l x) = nb := ⟨_, rfl⟩
         rw [heb, hfx0] at HW
         rw [heb, hfx0, hnb] at HNW
         rw [heb] at ca
         rw [hfx0] at cf
         rw [hnb]
         have hcap := (Kd.R_reads' HX.out).2.1
         obtain ⟨fb, hfb⟩ : ∃ fb, (fx == -1) = fb := ⟨_, rfl⟩
         have hfb2 : decide (fx = -1) = fb := by rw [← hfb]; rfl
         rw [hfb2] at HW HNW
         subst hA
         clear hx' hs hrd hfx heb hfx0 hnb hfb2
         cases nb <;> cases eb <;> cases fb
         all_goals
          go_wp2_with fail
          go_roundw
          case rel =>
           have hp := fun b => Kd.R_putn HX.out (x : Int) b
           rw [Int.toNat_natCast] at hp
           exact ⟨x + 1, by omega, by omega, by rw [HNW.out]; rfl, by go_num, by rw [HW.out]; exact hp _, R_besideB HV.out HX.out _ _, HB.out.setCell hgN _⟩
          case measure => simp [intOf]; omega
        ·obtain rfl : x = j := by omega
         clear hltx
         by_cases hz : newTo k fl l x = 0
         ·have HD := Lib.hid ((by have := HQ.out; rw [← hll] at HFL hz; rw [← hll] at this ⊢; exact this.done HFL.out hz) : HeapIs x k E rs l fl)
          have HLX := Lib.hid (new_zero k fl l x hz)
          have HE1 := Lib.hid (HD.out.one HH.out HOE.out)
          go_wp2_with fail
          go_roundg (x - l.count true)
          case rel => exact ⟨l, false, Lib.hid (by rw [hz]; rfl), Lib.hid rfl, HQ, Lib.hid (fun _ => HE1.out.symm), Lib.hid (by have := HX.out; rwa [HLX.out] at this), HB⟩
          case measure => rw [HK0.out]; simp
         ·have hct := count_new k fl l x (by omega)
          have hct2 : (escTo k fl l x).count true ≤ x := by
           have := List.count_le_length (a := true) (l := escTo k fl l x)
           omega
          have HMX := Lib.hid (show x - (escTo k fl l x).count true < x - l.count true by omega)
          have HQ2 := Lib.hid (HQ.out.more HFL.out)
          have HNZ := Lib.hid (show decide (0 < newTo k fl l x) = true from decide_eq_true (by omega))
          clear hz hct hct2
          go_wp2_with fail
          go_roundg (x - (escTo k fl l x).count true + 1)
          case rel => exact ⟨_, true, Lib.hid (by rw [HNZ.out]), Lib.hid rfl, HQ2, Lib.hid (fun e => by cases e), HX, HB⟩
          case measure => rw [HK0.out]; have := HMX.out; simp; omega
theorem two_allocs (w : World) (o o' : Obj) : Below w.heap.size w ((w.alloc o).alloc o') := (below1 w o).alloc (by simp) _
theorem weight7_any (d : Int) (w : World) : Calls Tryz.prog 133 #[.int .i64 d] w fun e w' => e = .returned (.bool (wOk d)) ∧ ∃ nd, w' = w.drewN nd := by
 obtain ⟨r, hr⟩ : ∃ r, wOk d = r := ⟨_, rfl⟩
 rw [hr]
 by_cases h0 : 0 ≤ d
 ·have d0 : decide (0 ≤ d) = true := decide_eq_true h0
  by_cases h3 : d ≤ 3
  ·have d1 : decide (d ≤ 3) = true := decide_eq_true h3
   have HR := Lib.hid (show r = true by rw [← hr]; exact wOk_of (.inl ⟨h0, h3⟩))
   clear h0 h3 hr
   go_enter Tryz.func133, Tryz.ntmps133
   go_wp2_with fail
   go_ret
   exact ⟨by rw [HR.out]; rfl, 0, rfl⟩
  ·have d1 : decide (d ≤ 3) = false := decide_eq_false h3
   have HR := Lib.hid (show r = (d == 9) by
    rw [← hr]
    by_cases h9 : d = 9
    ·subst h9; rfl
    ·rw [beq_eq_false_iff_ne.2 h9]
     cases hw : wOk d with
     | false => rfl
     | true => have := wOk_iff hw; omega)
   clear h0 h3 hr
   go_enter Tryz.func133, Tryz.ntmps133
   go_wp2_with fail
   go_ret
   exact ⟨by rw [HR.out]; rfl, 0, rfl⟩
 ·have d0 : decide (0 ≤ d) = false := decide_eq_false h0
  have d9 : (d == 9) = false := beq_eq_false_iff_ne.2 (by omega)
  have HR := Lib.hid (show r = false by
   rw [← hr]
   cases hw : wOk d with
   | false => rfl
   | true => have := wOk_iff hw; omega)
  clear h0 hr
  go_enter Tryz.func133, Tryz.ntmps133
  go_wp2_with fail
  go_ret
  exact ⟨by rw [HR.out]; rfl, 0, rfl⟩
def FitI (f1 : Int) (hs : List Int) (rows : List (List Int)) (i : Nat) : Prop := wOk (hs.getD i 0) = true ∧ ((rows.getD i []).length : Int) = f1 ∧ ∀ j, j < (rows.getD i []).length → wOk ((rows.getD i []).getD j 0) = true
def FitP (f0 f1 : Int) (hs : List Int) (rows : List (List Int)) : Prop := (hs.length : Int) = f0 ∧ (rows.length : Int) = f0 ∧ ∀ i, i < hs.length → FitI f1 hs rows i
theorem fitP_iff (f : Fun) (s : Smm) : FitP f.f0 f.f1 s.f0 s.f1 ↔ fitsB f s = true := by
 constructor
 ·intro h
  have key : ∀ l : List Nat, (∀ i ∈ l, i < s.f0.length) → fitFrom f.f1 s.f0 s.f1 l = true := by
   intro l
   induction l with
   | nil => intro _; rfl
   | cons a l ih =>
    intro hl
    obtain ⟨h1, h2, h3⟩ := h.2.2 a (hl a List.mem_cons_self)
    unfold fitFrom
    rw [Bool.and_eq_true, Bool.and_eq_true, Bool.and_eq_true, decide_eq_true_eq, List.all_eq_true]
    refine ⟨h1, h2, fun x hx => ?_, ih (fun i hi => hl i (List.mem_cons_of_mem _ hi))⟩
    obtain ⟨j, hj, rfl⟩ := List.getElem_of_mem hx
    have := h3 j hj
    rwa [List.getD_eq_getElem?_getD (l := s.f1.getD a []), List.getElem?_eq_getElem hj] at this
  unfold fitsB
  rw [Bool.and_eq_true, Bool.and_eq_true, decide_eq_true_eq, decide_eq_true_eq]
  exact ⟨h.1, h.2.1, key _ (fun i hi => List.mem_range.1 hi)⟩
 ·intro h
  obtain ⟨h1, h2, h3⟩ := fit_of h
  refine ⟨h1, h2, fun i hi => ?_⟩
  obtain ⟨g1, g2, g3⟩ := h3 i hi
  refine ⟨g1, g2, fun j hj => g3 _ ?_⟩
  rw [List.getD_eq_getElem?_getD (l := s.f1.getD i []), List.getElem?_eq_getElem hj]
  exact List.getElem_mem hj
set_option maxRecDepth 100000 in
set_option maxHeartbeats 6400000 in
theorem right7_any (f0 f1 f2 : Int) (A3 : Option Addr) (n3 c3 : Nat) (A0 : Option Addr) (c0 : Nat) (hs : List Int) (A1 : Option Addr) (c1 : Nat) (rows : List (List Int)) (w : World)
  (hA0 : (Kd.int .i64).C w A0 hs.length hs) (hA1 : (Kd.slice 3 (Kd.int .i64)).C w A1 rows.length rows) (hn : hs.length ≤ 2147483646) (hrl : ∀ r ∈ rows, r.length ≤ 2147483647) :
  Calls Tryz.prog 101 #[.agg #[.int .i64 f0, .int .i64 f1, .int .i64 f2, .slice A3 n3 c3], .agg #[.slice A0 hs.length c0, .slice A1 rows.length c1]] w fun e w' => ∃ r, e = .returned (.bool r) ∧ (r = true ↔ FitP f0 f1 hs rows) ∧ Below w.heap.size w w' := by
 have HA0 := Lib.hid hA0
 have HA1 := Lib.hid hA1
 have HRL := Lib.hid hrl
 obtain ⟨n, hn0⟩ : ∃ n, hs.length = n := ⟨_, rfl⟩
 obtain ⟨n', hn1⟩ : ∃ n', rows.length = n' := ⟨_, rfl⟩
 rw [hn0] at HA0 hn ⊢
 rw [hn1] at HA1 ⊢
 have HN0 := Lib.hid hn0
 have HN1 := Lib.hid hn1
 clear hA0 hA1 hrl hn0 hn1
 go_enter Tryz.func101, Tryz.ntmps101
 go_upto_region 1 with (fail)
 have hb2 := two_allocs w (.cells #[.int .i64 f0, .int .i64 f1, .int .i64 f2, .slice A3 n3 c3] 66) (.cells #[.slice A0 n c0, .slice A1 n' c1] 34)
 have g1 := alloc_first w #[.int .i64 f0, .int .i64 f1, .int .i64 f2, .slice A3 n3 c3] 66 (.cells #[.slice A0 n c0, .slice A1 n' c1] 34)
 have g2 := alloc_second w (.cells #[.int .i64 f0, .int .i64 f1, .int .i64 f2, .slice A3 n3 c3] 66) #[.slice A0 n c0, .slice A1 n' c1] 34
 obtain ⟨N, hN⟩ : ∃ N, w.heap.size = N := ⟨_, rfl⟩
 have HN := Lib.hid hN
 rw [hN] at hb2 g1 g2 ⊢
 clear hN
 generalize World.alloc _ _ = W2 at hb2 g1 g2 ⊢
 have HB2 := Lib.hid hb2
 have F1 := Lib.hid g1
 have F2 := Lib.hid g2
 have p0 := blk_cell g1 0
 have q0 := blk_cell g2 0
 have q1 := blk_cell g2 1
 simp only [List.getElem?_toArray, List.getElem?_cons_succ, List.getElem?_cons_zero] at p0 q0 q1
 clear hb2 g1 g2
 by_cases h0 : (n : Int) = f0
 ·subst h0
  by_cases h1 : n' = n
  ·subst h1
   go_wp2_with fail
   clear p0 q0 q1
   go_loopw [5] (fun i wr => ∃ j : Nat, j ≤ n' ∧ i = .int .i64 j ∧ (∀ q, q < j → FitI f1 hs rows q) ∧ Below W2.heap.size W2 wr) (fun i _ => n' - (intOf i).toNat)
   case atStart => exact ⟨0, by omega, rfl, fun q hq => absurd hq (by omega), Below.refl _ _⟩
   case round =>
    obtain ⟨j, hj, rfl, hall, hb⟩ := hrel
    have g1 := (hb.block _ (blk_lt F1.out)).trans F1.out
    have g2 := (hb.block _ (blk_lt F2.out)).trans F2.out
    have p0 := blk_cell g1 0
    have p1 := blk_cell g1 1
    have q0 := blk_cell g2 0
    have q1 := blk_cell g2 1
    simp only [List.getElem?_toArray, List.getElem?_cons_succ, List.getElem?_cons_zero] at p0 p1 q0 q1
    have HBr := Lib.hid hb
    have HALL := Lib.hid hall
    clear g1 g2 hall
    by_cases hlt : j < n'
    ·have hbw : Below w.heap.size w wr := by rw [HN.out]; exact HB2.out.trans (hb.mono (by have := blk_lt F1.out; omega))
     obtain ⟨ad0, hx0, v0⟩ := Kd.at_int (Kd.C_below HA0.out hbw) (j : Int) (by omega) (by omega)
     obtain ⟨ad1, R0, e0, hx1, v1, _, hC⟩ := at_L1 (Kd.C_below HA1.out hbw) (j : Int) (by omega) (by omega)
     have r1 : rd_L1 rows (j : Int) = rows.getD j [] := by rw [rd_L1, Int.toNat_natCast]
     obtain ⟨m, hm⟩ : ∃ m, (rows.getD j []).length = m := ⟨_, rfl⟩
     have hml : m ≤ 2147483647 := by rw [← hm]; exact HRL.out _ (by rw [List.getD_eq_getElem?_getD, List.getElem?_eq_getElem (by rw [HN1.out]; exact hlt)]; exact List.getElem_mem _)
     rw [r1, hm] at v1 hC
     obtain ⟨x, hx⟩ : ∃ x, hs.getD j 0 = x := ⟨_, rfl⟩
     have e1 : rd hs (j : Int) = x := by unfold rd; rw [Int.toNat_natCast]; exact hx
     rw [e1, Int.toNat_natCast] at v0
     rw [Int.toNat_natCast] at v1
     obtain ⟨b, hb0⟩ : ∃ b, wOk x = b := ⟨_, rfl⟩
     have HX := Lib.hid (And.intro hx hb0)
     have HC := Lib.hid hC
     have HM := Lib.hid hm
     subst hx0
     subst hx1
     have HX0 := Lib.hid hb0
     clear hC hm r1 hx e1 hbw hb
     cases b with
     | false =>
      go_upto_region 6 with (fail)
      go_quiet (first | (go_at_call 133; (with_reducible refine (hb0 ▸ weight7_any x _).mono ?_); rintro e w' ⟨rfl, ⟨nd, rfl⟩⟩; (try first | exact ⟨rfl, _, World.drewN_drewN _ _ _⟩ | exact ⟨rfl, _, Eq.trans (World.drewN_drewN _ _ _) (congrArg (World.drewN _) (Nat.add_assoc _ _ _))⟩)))
      go_wp2_with fail
      go_ret
      exact ⟨false, rfl, ⟨fun h => (by cases h), fun h => (by have h2 := (h.2.2 j (by rw [HN0.out]; exact hlt)).1; rw [HX.out.1, HX.out.2] at h2; cases h2)⟩, by rw [HN.out]; exact HB2.out.trans ((pw_below_drewN HBr.out _).mono (by have := blk_lt F1.out; omega))⟩
     | true =>
      by_cases hf : (m : Int) = f1
      ·have hd : ((m : Int) != f1) = false := bne_eq_false_iff_eq.2 hf
       subst hf
       go_upto_region 6 with (fail)
       go_quiet (first | (go_at_call 133; (with_reducible refine (hb0 ▸ weight7_any x _).mono ?_); rintro e w' ⟨rfl, ⟨nd, rfl⟩⟩; (try first | exact ⟨rfl, _, World.drewN_drewN _ _ _⟩ | exact ⟨rfl, _, Eq.trans (World.drewN_drewN _ _ _) (congrArg (World.drewN _) (Nat.add_assoc _ _ _))⟩)))
       have HQ0 := Lib.hid (show Below wr.heap.size wr (wr.drewN nq) from pw_below_drewN (Below.refl _ wr) nq)
       generalize wr.drewN nq = w5 at HQ0 ⊢
       clear hd
       go_wp2_with fail
       obtain ⟨wo, rfl⟩ : ∃ wo : World, wo = wr := ⟨_, rfl⟩
       go_loopw [6] (fun i wq => ∃ k : Nat, k ≤ m ∧ i = .int .i64 k ∧ (∀ q, q < k → wOk ((rows.getD j []).getD q 0) = true) ∧ Below wo.heap.size wo wq) (fun i _ => m - (intOf i).toNat)
       case atStart => exact ⟨0, by omega, rfl, fun q hq => absurd hq (by omega), HQ0.out⟩
       case round =>
        clear HQ0
        obtain ⟨k, hk, rfl, hall, hbq⟩ := hrel
        have Q1 := below_cells hbq _ _ q1
        have P1 := below_cells hbq _ _ p1
        have V1 := below_cells hbq _ _ v1
        have HBq := Lib.hid hbq
        have HALK := Lib.hid hall
        clear p0 p1 q0 q1 v1 v0 hall
        by_cases hkm : k < m
        ·obtain ⟨cd, hx2, z0⟩ := Kd.at_int (Kd.C_below HC.out hbq) (k : Int) (by omega) (by omega)
         obtain ⟨x2, hx⟩ : ∃ x2, (rows.getD j []).getD k 0 = x2 := ⟨_, rfl⟩
         have e1 : rd (rows.getD j []) (k : Int) = x2 := by unfold rd; rw [Int.toNat_natCast]; exact hx
         rw [e1, Int.toNat_natCast] at z0
         obtain ⟨b, hb0⟩ : ∃ b, wOk x2 = b := ⟨_, rfl⟩
         have HXX := Lib.hid (And.intro hx hb0)
         subst hx2
         clear hx e1 hbq
         go_wp2_with fail
         refine (hb0 ▸ weight7_any x2 _).mono ?_
         rintro e w6 ⟨rfl, ⟨nd, rfl⟩⟩
         have HQ1 := Lib.hid (show Below wo.heap.size wo (wr.drewN nd) from pw_below_drewN HBq.out nd)
         clear Q1 V1 P1 z0
         generalize wr.drewN nd = w6 at HQ1 ⊢
         cases b with
         | true =>
          go_wp2_with fail
          go_roundw
          case rel =>
           refine ⟨k + 1, by omega, by go_num, fun q hq => ?_, HQ1.out⟩
           by_cases hqk : q = k
           ·subst hqk; rw [HXX.out.1]; exact HXX.out.2
           ·exact HALK.out q (by omega)
          case measure => simp [intOf]; omega
         | false =>
          go_wp2_with fail
          go_ret
          exact ⟨false, rfl, ⟨fun h => (by cases h), fun h => (by have h2 := (h.2.2 j (by rw [HN0.out]; exact hlt)).2.2 k (by rw [HM.out]; exact hkm); rw [HXX.out.1, HXX.out.2] at h2; cases h2)⟩, by rw [HN.out]; exact HB2.out.trans ((HBr.out.trans (HQ1.out.mono HBr.out.size)).mono (by have := blk_lt F1.out; omega))⟩
        ·obtain rfl : k = m := by omega
         clear hbq
         go_wp2_with fail
         go_roundw
         case rel =>
          refine ⟨j + 1, by omega, by go_num, fun q hq => ?_, HBr.out.trans (HBq.out.mono HBr.out.size)⟩
          by_cases hqj : q = j
          ·subst hqj
           exact ⟨by rw [HX.out.1]; exact HX.out.2, by rw [HM.out], fun q hq => HALK.out q (by rw [HM.out] at hq; exact hq)⟩
          ·exact HALL.out q (by omega)
         case measure => simp [intOf]; omega
      ·have hd : ((m : Int) != f1) = true := bne_iff_ne.2 hf
       go_upto_region 6 with (fail)
       go_quiet (first | (go_at_call 133; (with_reducible refine (hb0 ▸ weight7_any x _).mono ?_); rintro e w' ⟨rfl, ⟨nd, rfl⟩⟩; (try first | exact ⟨rfl, _, World.drewN_drewN _ _ _⟩ | exact ⟨rfl, _, Eq.trans (World.drewN_drewN _ _ _) (congrArg (World.drewN _) (Nat.add_assoc _ _ _))⟩)))
       go_wp2_with fail
       go_ret
       exact ⟨false, rfl, ⟨fun h => (by cases h), fun h => (by have h2 := (h.2.2 j (by rw [HN0.out]; exact hlt)).2.1; rw [HM.out] at h2; exact absurd h2 hf)⟩, by rw [HN.out]; exact HB2.out.trans ((pw_below_drewN HBr.out _).mono (by have := blk_lt F1.out; omega))⟩
    ·obtain rfl : j = n' := by omega
     clear hb
     go_wp2_with fail
     go_ret
     refine ⟨true, rfl, ⟨fun _ => ⟨by rw [HN0.out], by rw [HN1.out], fun i hi => HALL.out i (by rw [HN0.out] at hi; exact hi)⟩, fun _ => rfl⟩, ?_⟩
     rw [HN.out]
     exact HB2.out.trans (HBr.out.mono (by have := blk_lt F1.out; omega))
  ·have hd : ((n' : Int) != (n : Int)) = true := bne_iff_ne.2 (by omega)
   go_wp2_with fail
   go_ret
   exact ⟨false, rfl, ⟨fun h => (by cases h), fun h => (by have h2 := h.2.1; rw [HN1.out] at h2; omega)⟩, by rw [HN.out]; exact HB2.out⟩
 ·have hd : ((n : Int) != f0) = true := bne_iff_ne.2 h0
  go_wp2_with fail
  go_ret
  exact ⟨false, rfl, ⟨fun h => (by cases h), fun h => (by have h2 := h.1; rw [HN0.out] at h2; omega)⟩, by rw [HN.out]; exact HB2.out⟩
end Go.Proofs.YtcbcacbbnojdjaaGreatDoor
