/-
 Part V of what the law's proof needs: walks of the program's functions and the plain laws of what they tell. No condition.
-/
import Derived.Test.YtcbcacbbnojdjaaGreatDoorMgJ
import Derived.Test.YtcbcacbbnojdjaaGreatDoorMgR
import Derived.Test.YtcbcacbbnojdjaaGreatDoorMgU
import Derived.Test.YtcbcacbbnojdjaaGreatDoorMgP
import Derived.Deep.RegionHeld3
namespace Go.Proofs.YtcbcacbbnojdjaaGreatDoor
open Go.RowKit Go.Maps Go.Proofs.YtcbcacbbnojdjaaGreatDoorW.PrintWords Go.Proofs.YtcbcacbbnojdjaaGreatDoorW.PrintLast Go.Proofs.YtcbcacbbnojdjaaGreatDoor.PSolveFunctions
set_option linter.unusedVariables false
set_option linter.unusedSimpArgs false
theorem newsTo_le (c : List Ins) : ∀ k, newsTo c k ≤ k
 | 0 => Nat.le_refl _
 | k + 1 => by
  have := newsTo_le c k
  unfold newsTo
  split <;> omega
set_option maxRecDepth 100000 in
set_option maxHeartbeats 6400000 in
theorem locs7_any (f : Fun) (A3 : Option Addr) (c3 : Nat) (w : World) (hC : k79.C w A3 f.f3.length f.f3) (h1 : 0 ≤ f.f1 ∧ f.f1 ≤ 4) (h2 : 0 ≤ f.f2 ∧ f.f2 ≤ 255) (hn : f.f3.length ≤ 4096) :
  Calls Tryz.prog 48 #[.agg #[.int .i64 f.f0, .int .i64 f.f1, .int .i64 f.f2, .slice A3 f.f3.length c3]] w fun e w' => e = .returned (.int .i64 (locsF f)) ∧ Below w.heap.size w w' := by
 have HC := Lib.hid hC
 have d1 : decide (f.f1 < 0) = false := decide_eq_false (by omega)
 have d2 : decide (f.f2 < 0) = false := decide_eq_false (by omega)
 clear hC
 go_enter Tryz.func48, Tryz.ntmps48
 go_upto_region 1 with (fail)
 have hb := below1 w (.cells #[.int .i64 f.f0, .int .i64 f.f1, .int .i64 f.f2, .slice A3 f.f3.length c3] 66)
 have hn1 := alloc_new w (.cells #[.int .i64 f.f0, .int .i64 f.f1, .int .i64 f.f2, .slice A3 f.f3.length c3] 66)
 obtain ⟨N, hN⟩ : ∃ N, w.heap.size = N := ⟨_, rfl⟩
 have HB := Lib.hid hb
 rw [hN] at hn1 ⊢
 generalize World.alloc _ _ = W at HB hn1 ⊢
 have c1 := blk_cell hn1 1
 have c2 := blk_cell hn1 2
 have c3' := blk_cell hn1 3
 simp only [List.getElem?_toArray, List.getElem?_cons_succ, List.getElem?_cons_zero] at c1 c2 c3'
 clear hn1 hN
 go_wp2_with fail
 go_loopw [3, 4] (fun v i wr => ∃ j : Nat, j ≤ f.f3.length ∧ v = .int .i64 (1 + f.f1 + f.f2 + (newsTo f.f3 j : Int)) ∧ i = .int .i64 j ∧ wr = W) (fun _ i _ => f.f3.length - (intOf i).toNat)
 case atStart => exact ⟨0, by omega, by simp [newsTo], rfl, by trivial⟩
 case round =>
  obtain ⟨j, hj, rfl, rfl, rfl⟩ := hrel
  have hnl := newsTo_le f.f3 j
  by_cases hlt : j < f.f3.length
  ·obtain ⟨ad, A5, c5, A6, c6, hA, x0, _⟩ := at_T79 (Kd.C_below HC.out HB.out) (j : Int) (by omega) (by omega)
   have hxr : (rd_T79 f.f3 (j : Int)).f0 = (f.f3.getD j zI).f0 := by rw [rd_T79, Int.toNat_natCast]
   rw [hxr, Int.toNat_natCast] at x0
   have HS := Lib.hid (show newsTo f.f3 (j + 1) = if (f.f3.getD j zI).f0 = 6 then newsTo f.f3 j + 1 else newsTo f.f3 j from rfl)
   generalize (f.f3.getD j zI).f0 = o at x0 HS
   obtain ⟨m, hm⟩ : ∃ m, newsTo f.f3 j = m := ⟨_, rfl⟩
   rw [hm] at hnl HS ⊢
   subst hA
   clear hxr hm
   by_cases h6 : o = 6
   ·subst h6
    go_wp2_with fail
    go_roundw
    case rel => exact ⟨j + 1, by omega, by rw [HS.out, if_pos rfl]; go_num, by go_num, by trivial⟩
    case measure => simp [intOf]; omega
   ·have b6 : (o == 6) = false := beq_eq_false_iff_ne.2 h6
    have HS2 := Lib.hid (show newsTo f.f3 (j + 1) = m by rw [HS.out, if_neg h6])
    clear h6
    go_wp2_with fail
    go_roundw
    case rel => exact ⟨j + 1, by omega, by rw [HS2.out], by go_num, by trivial⟩
    case measure => simp [intOf]; omega
  ·obtain rfl : j = f.f3.length := by omega
   have HL := Lib.hid (show (locsF f : Int) = 1 + f.f1 + f.f2 + (newsTo f.f3 f.f3.length : Int) by unfold locsF; omega)
   clear hnl
   go_wp2_with fail
   go_ret
   exact ⟨by rw [HL.out]; rfl, HB.out⟩
set_option maxRecDepth 100000 in
set_option maxHeartbeats 6400000 in
theorem cell7_any (f : Fun) (a : Nat) (A3 : Option Addr) (c3 : Nat) (w : World) (hC : k79.C w A3 f.f3.length f.f3) (h1 : 0 ≤ f.f1 ∧ f.f1 ≤ 4) (h2 : 0 ≤ f.f2 ∧ f.f2 ≤ 255) (hn : f.f3.length ≤ 4096) (ha : a < f.f3.length) (h6 : (f.f3.getD a zI).f0 = 6) :
  Calls Tryz.prog 134 #[.agg #[.int .i64 f.f0, .int .i64 f.f1, .int .i64 f.f2, .slice A3 f.f3.length c3], .int .i64 a] w fun e w' => e = .returned (.int .i64 (1 + f.f1 + f.f2 + (newsTo f.f3 a : Int))) ∧ Below w.heap.size w w' := by
 have HC := Lib.hid hC
 have d1 : decide (f.f1 < 0) = false := decide_eq_false (by omega)
 have d2 : decide (f.f2 < 0) = false := decide_eq_false (by omega)
 have d3 : decide ((a : Int) < 0) = false := decide_eq_false (by omega)
 have d4 : decide ((f.f3.length : Int) ≤ a) = false := decide_eq_false (by omega)
 clear hC
 go_enter Tryz.func134, Tryz.ntmps134
 go_upto_region 1 with (fail)
 have hb := below1 w (.cells #[.int .i64 f.f0, .int .i64 f.f1, .int .i64 f.f2, .slice A3 f.f3.length c3] 66)
 have hn1 := alloc_new w (.cells #[.int .i64 f.f0, .int .i64 f.f1, .int .i64 f.f2, .slice A3 f.f3.length c3] 66)
 obtain ⟨N, hN⟩ : ∃ N, w.heap.size = N := ⟨_, rfl⟩
 have HB := Lib.hid hb
 rw [hN] at hn1 ⊢
 generalize World.alloc _ _ = W at HB hn1 ⊢
 have c1 := blk_cell hn1 1
 have c2 := blk_cell hn1 2
 have c3' := blk_cell hn1 3
 simp only [List.getElem?_toArray, List.getElem?_cons_succ, List.getElem?_cons_zero] at c1 c2 c3'
 obtain ⟨ad, A5, c5, A6, c6, hA, x0, _⟩ := at_T79 (Kd.C_below HC.out HB.out) (a : Int) (by omega) (by omega)
 have hxr : (rd_T79 f.f3 (a : Int)).f0 = 6 := by rw [rd_T79, Int.toNat_natCast]; exact h6
 rw [hxr, Int.toNat_natCast] at x0
 subst hA
 clear hn1 hN hxr h6
 go_wp2_with fail
 clear x0
 go_loopw [5, 6] (fun v i wr => ∃ j : Nat, j ≤ a ∧ v = .int .i64 (1 + f.f1 + f.f2 + (newsTo f.f3 j : Int)) ∧ i = .int .i64 j ∧ wr = W) (fun _ i _ => a - (intOf i).toNat)
 case atStart => exact ⟨0, by omega, by simp [newsTo], rfl, by trivial⟩
 case round =>
  obtain ⟨j, hj, rfl, rfl, rfl⟩ := hrel
  have hnl := newsTo_le f.f3 j
  by_cases hlt : j < a
  ·obtain ⟨ad', A5, c5, A6, c6, hA, x0, _⟩ := at_T79 (Kd.C_below HC.out HB.out) (j : Int) (by omega) (by omega)
   have hxr : (rd_T79 f.f3 (j : Int)).f0 = (f.f3.getD j zI).f0 := by rw [rd_T79, Int.toNat_natCast]
   rw [hxr, Int.toNat_natCast] at x0
   have HS := Lib.hid (show newsTo f.f3 (j + 1) = if (f.f3.getD j zI).f0 = 6 then newsTo f.f3 j + 1 else newsTo f.f3 j from rfl)
   generalize (f.f3.getD j zI).f0 = o at x0 HS
   obtain ⟨m, hm⟩ : ∃ m, newsTo f.f3 j = m := ⟨_, rfl⟩
   rw [hm] at hnl HS ⊢
   injection hA with hA
   subst hA
   clear hxr hm
   by_cases h6 : o = 6
   ·subst h6
    go_wp2_with fail
    go_roundw
    case rel => exact ⟨j + 1, by omega, by rw [HS.out, if_pos rfl]; go_num, by go_num, by trivial⟩
    case measure => simp [intOf]; omega
   ·have b6 : (o == 6) = false := beq_eq_false_iff_ne.2 h6
    have HS2 := Lib.hid (show newsTo f.f3 (j + 1) = m by rw [HS.out, if_neg h6])
    clear h6
    go_wp2_with fail
    go_roundw
    case rel => exact ⟨j + 1, by omega, by rw [HS2.out], by go_num, by trivial⟩
    case measure => simp [intOf]; omega
  ·obtain rfl : j = a := by omega
   clear hnl
   go_wp2_with fail
   go_ret
   exact ⟨rfl, HB.out⟩
open Go.RowKit Go.Maps Go.Proofs.YtcbcacbbnojdjaaGreatDoorW.PrintWords Go.Proofs.YtcbcacbbnojdjaaGreatDoorW.PrintLast Go.Proofs.YtcbcacbbnojdjaaGreatDoorW.PrintMore Go.Proofs.YtcbcacbbnojdjaaGreatDoor.PSolveFunctions
theorem info_edg : (Tryz.prog.info? 144).map (fun i => (i.zero, i.size, i.bytes)) = some (some (.agg #[.int .i64 0, .int .i64 0, .int .i64 0]), k144.sz, 24) := by kernel_rfl
theorem three_allocs (w : World) (o1 o2 o3 : Obj) : Below w.heap.size w (((w.alloc o1).alloc o2).alloc o3) ∧ (((w.alloc o1).alloc o2).alloc o3).heap[w.heap.size]? = some o1 ∧ (((w.alloc o1).alloc o2).alloc o3).heap[w.heap.size + 1]? = some o2 ∧ (((w.alloc o1).alloc o2).alloc o3).heap[w.heap.size + 1 + 1]? = some o3 := by
 have s1 : (w.alloc o1).heap.size = w.heap.size + 1 := by simp
 have s2 : ((w.alloc o1).alloc o2).heap.size = w.heap.size + 1 + 1 := by simp
 refine ⟨((below1 w o1).alloc (by simp) o2).alloc (by omega) o3, ?_, ?_, ?_⟩
 ·exact ((below1 _ o3).block _ (by omega)).trans (((below1 _ o2).block _ (by omega)).trans (heap_alloc_new w o1))
 ·have := heap_alloc_new (w.alloc o1) o2
  rw [s1] at this
  exact ((below1 _ o3).block _ (by omega)).trans this
 ·have := heap_alloc_new ((w.alloc o1).alloc o2) o3
  rwa [s2] at this
theorem oneE_some {a b d : Int} (h : d ≠ 9) : oneE a b d = [⟨a, b, d⟩] := if_neg h
set_option maxRecDepth 100000 in
set_option maxHeartbeats 12800000 in
theorem call7_any (f : Fun) (A3 : Option Addr) (n3 c3 : Nat) (x : Ins) (A5 : Option Addr) (c5 : Nat) (A6 : Option Addr) (c6 : Nat) (s : Smm) (B0 : Option Addr) (d0 : Nat) (B1 : Option Addr) (d1 : Nat) (w : World)
  (h5 : (Kd.int .i64).C w A5 x.f5.length x.f5) (h6 : (Kd.int .i64).C w A6 x.f6.length x.f6) (g0 : (Kd.int .i64).C w B0 s.f0.length s.f0) (g1 : (Kd.slice 3 (Kd.int .i64)).C w B1 s.f1.length s.f1)
  (hr : 0 ≤ f.f1 ∧ f.f1 ≤ 4) (hv : f.f2 ≤ 255) (va : ∀ v ∈ x.f5, 0 ≤ v ∧ v < f.f2) (vr : ∀ v ∈ x.f6, 0 ≤ v ∧ v < f.f2) (l5 : x.f5.length ≤ 8) (l6 : x.f6.length ≤ 4) (e0 : s.f0.length = x.f5.length) (e1 : s.f1.length = x.f5.length) (er : ∀ r ∈ s.f1, r.length = x.f6.length) :
  Calls Tryz.prog 135 #[.agg #[.int .i64 f.f0, .int .i64 f.f1, .int .i64 f.f2, .slice A3 n3 c3], .agg #[.int .i64 x.f0, .int .i64 x.f1, .int .i64 x.f2, .int .i64 x.f3, .int .i64 x.f4, .slice A5 x.f5.length c5, .slice A6 x.f6.length c6], .agg #[.slice B0 s.f0.length d0, .slice B1 s.f1.length d1]] w
   fun e w' => ∃ v, e = .returned v ∧ k144.R 144 w' w.heap.size (fun _ => True) v (callE f x s x.f5.length) ∧ Below w.heap.size w w' := by
 have H5 := Lib.hid h5
 have H6 := Lib.hid h6
 have G0 := Lib.hid g0
 have G1 := Lib.hid g1
 have VA := Lib.hid va
 have VR := Lib.hid vr
 have ER := Lib.hid er
 have E0 := Lib.hid e0
 have E1 := Lib.hid e1
 clear h5 h6 g0 g1 va vr er e0 e1
 go_enter Tryz.func135, Tryz.ntmps135
 go_upto_region 1 with (fail)
 obtain ⟨hb0, b1, b2, b3⟩ := three_allocs w (.cells #[.int .i64 f.f0, .int .i64 f.f1, .int .i64 f.f2, .slice A3 n3 c3] 66) (.cells #[.int .i64 x.f0, .int .i64 x.f1, .int .i64 x.f2, .int .i64 x.f3, .int .i64 x.f4, .slice A5 x.f5.length c5, .slice A6 x.f6.length c6] 79) (.cells #[.slice B0 s.f0.length d0, .slice B1 s.f1.length d1] 34)
 obtain ⟨N, hN⟩ : ∃ N, w.heap.size = N := ⟨_, rfl⟩
 have HN := Lib.hid hN
 rw [hN] at hb0 b1 b2 b3 ⊢
 clear hN
 generalize World.alloc _ _ = W at hb0 b1 b2 b3 ⊢
 have HB0 := Lib.hid hb0
 have B1' := Lib.hid b1
 have B2' := Lib.hid b2
 have B3' := Lib.hid b3
 clear hb0 b1 b2 b3
 go_wp2_with fail
 go_loopw [7, 8] (fun v i wr => ∃ j : Nat, j ≤ x.f5.length ∧ i = .int .i64 j ∧ k144.R 144 wr N (fun _ => True) v (callE f x s j) ∧ wr.heap[N]? = some (.cells #[.int .i64 f.f0, .int .i64 f.f1, .int .i64 f.f2, .slice A3 n3 c3] 66 (0, 0)) ∧ wr.heap[N + 1]? = some (.cells #[.int .i64 x.f0, .int .i64 x.f1, .int .i64 x.f2, .int .i64 x.f3, .int .i64 x.f4, .slice A5 x.f5.length c5, .slice A6 x.f6.length c6] 79 (0, 0)) ∧ wr.heap[N + 1 + 1]? = some (.cells #[.slice B0 s.f0.length d0, .slice B1 s.f1.length d1] 34 (0, 0)) ∧ Below N w wr) (fun _ i _ => x.f5.length - (intOf i).toNat)
 case atStart => exact ⟨0, by omega, rfl, Kd.R_nil _ _ _ _ _, B1'.out, B2'.out, B3'.out, HB0.out⟩
 case round =>
  clear HB0 B1' B2' B3'
  obtain ⟨j, hj, rfl, hr0, k1, k2, k3, hb⟩ := hrel
  have HR := Lib.hid hr0
  have HB := Lib.hid hb
  have K1 := Lib.hid k1
  have K2 := Lib.hid k2
  have K3 := Lib.hid k3
  clear hr0 k1 k2 k3 hb
  obtain ⟨Ar, cr, rfl⟩ := Kd.R_slice HR.out
  have p0 := blk_cell K1.out 0
  have p1 := blk_cell K1.out 1
  have p2 := blk_cell K1.out 2
  have p3 := blk_cell K1.out 3
  have q5 := blk_cell K2.out 5
  have q6 := blk_cell K2.out 6
  have r0 := blk_cell K3.out 0
  have r1 := blk_cell K3.out 1
  simp only [List.getElem?_toArray, List.getElem?_cons_succ, List.getElem?_cons_zero] at p0 p1 p2 p3 q5 q6 r0 r1
  have hcl := callE_length f x s j
  by_cases hlt : j < x.f5.length
  ·have hbw : Below w.heap.size w wr := HN.out ▸ HB.out
   obtain ⟨ad, hA, x5⟩ := Kd.at_int (Kd.C_below H5.out hbw) (j : Int) (by omega) (by omega)
   have hj0 : j < s.f0.length := by have := E0.out; omega
   have hj1 : j < s.f1.length := by have := E1.out; omega
   obtain ⟨bd, hB, y0⟩ := Kd.at_int (Kd.C_below G0.out hbw) (j : Int) (by omega) (by omega)
   obtain ⟨ed, R1, m1, hE, y1, hm1, hRC⟩ := at_L1 (Kd.C_below G1.out hbw) (j : Int) (by omega) (by omega)
   obtain ⟨v, hv0⟩ : ∃ v, x.f5.getD j 0 = v := ⟨_, rfl⟩
   obtain ⟨d, hd0⟩ : ∃ d, s.f0.getD j 0 = d := ⟨_, rfl⟩
   have e5 : rd x.f5 (j : Int) = v := hv0
   have ed0 : rd s.f0 (j : Int) = d := hd0
   have er1 : rd_L1 s.f1 (j : Int) = s.f1.getD j [] := by rw [rd_L1, Int.toNat_natCast]
   have hrow : (s.f1.getD j []).length = x.f6.length := ER.out _ (by rw [List.getD_eq_getElem?_getD, List.getElem?_eq_getElem hj1]; exact List.getElem_mem _)
   obtain ⟨row, hrw⟩ : ∃ row, s.f1.getD j [] = row := ⟨_, rfl⟩
   rw [er1, hrw] at y1 hm1 hRC
   rw [hrw] at hrow
   rw [hrow] at y1
   rw [e5, Int.toNat_natCast] at x5
   rw [ed0, Int.toNat_natCast] at y0
   rw [Int.toNat_natCast] at y1
   have hva := VA.out v (hv0 ▸ (by rw [List.getD_eq_getElem?_getD, List.getElem?_eq_getElem hlt]; exact List.getElem_mem _))
   have HS := Lib.hid (show callE f x s (j + 1) = callE f x s j ++ (oneE 0 (atE f v) d ++ resE f x.f6 row (atE f v) x.f6.length) by rw [callE, hv0, hd0, hrw])
   have HRC := Lib.hid hRC
   have HROW := Lib.hid hrow
   have HRW := Lib.hid hrw
   have HVE := Lib.hid (varE_of hva)
   have HVA := Lib.hid (var7_any f v A3 n3 c3 wr.drew hr hv)
   subst hA
   subst hB
   subst hE
   clear hv0 hd0 e5 ed0 er1 hrw hRC hrow hva hbw
   go_upto_region 5 with (fail)
   go_still_tail 6, (by kernel_rfl)
   change wpList _ _ _ _ _ wr.drew
   go_wp2_with fail
   refine HVA.out.mono ?_
   rintro e w3 ⟨rfl, hb3⟩
   rw [HVE.out]
   obtain ⟨a, ha⟩ : ∃ a, atE f v = a := ⟨_, rfl⟩
   rw [ha] at HS ⊢
   have h13 : Below wr.heap.size wr w3 := Below.trans (below_drew (Below.refl _ wr)) hb3
   have HR3 := Lib.hid (Kd.R_below HR.out h13)
   have HB3 := Lib.hid (HB.out.trans (h13.mono (HN.out ▸ HB.out.size)))
   have L1 := Lib.hid ((h13.block _ (blk_lt K1.out)).trans K1.out)
   have L2 := Lib.hid ((h13.block _ (blk_lt K2.out)).trans K2.out)
   have L3 := Lib.hid ((h13.block _ (blk_lt K3.out)).trans K3.out)
   replace y0 := below_cells h13 _ _ y0
   replace y1 := below_cells h13 _ _ y1
   clear p0 p1 p2 p3 q5 q6 r0 r1 x5 hb3 h13 HVA HVE ha HR HB K1 K2 K3
   have r0 := blk_cell L3.out 0
   simp only [List.getElem?_toArray, List.getElem?_cons_succ, List.getElem?_cons_zero] at r0
   by_cases h9 : d = 9
   case' pos =>
    have b9 : (d != 9) = false := by simpa using h9
    have HS2 := Lib.hid (show callE f x s (j + 1) = callE f x s j ++ resE f x.f6 row a x.f6.length by rw [HS.out, oneE, if_pos h9]; rfl)
    clear h9
    go_upto_region 8 with (fail)
    obtain ⟨L, hL⟩ : ∃ L, callE f x s j = L := ⟨_, rfl⟩
    rw [hL] at HR3 HS2 hcl ⊢
    have hcl2 : L.length ≤ j * (x.f6.length + 1) + 1 := by omega
    clear hcl hL HS r0 b9 y0
    obtain ⟨w4, rfl⟩ : ∃ w4 : World, w4 = w3 := ⟨_, rfl⟩
    obtain ⟨A4, rfl⟩ : ∃ A4, A4 = Ar := ⟨_, rfl⟩
    obtain ⟨c4, rfl⟩ : ∃ c4, c4 = cr := ⟨_, rfl⟩
    have HR4 := HR3
    have HB4 := HB3
    have M1 := L1
    have M2 := L2
    have M3 := L3
    clear HR3 HB3 L1 L2 L3
   case' neg =>
    have b9 : (d != 9) = true := by simpa using h9
    have HS2 := Lib.hid (show callE f x s (j + 1) = (callE f x s j ++ [⟨0, a, d⟩]) ++ resE f x.f6 row a x.f6.length by rw [HS.out, oneE_some h9, List.append_assoc])
    clear h9
    have hcl8 : (callE f x s j).length ≤ 100 := by
     have : j * (x.f6.length + 1) ≤ 8 * 5 := Nat.mul_le_mul (by omega) (by omega)
     omega
    go_upto_region 8 with (first | (at_builtin; refine Kd.R_append k144 (w0 := w) (W := w3) N rfl (.tmp 31) (.tmp 39) 83 144 (.agg #[.int .i64 0, .int .i64 0, .int .i64 0]) 24 rfl Tryz.underlying83 info_edg rfl (by decide) (by decide) (.slice Ar (callE f x s j).length cr) (callE f x s j) (⟨0, a, d⟩ : Edg) [.int .i64 0, .int .i64 a, .int .i64 d] (fun _ => True) (fun _ => False) rfl rfl (k144_mkM _ _ _ (⟨0, a, d⟩ : Edg)) (fun _ h => h.elim) (fun _ _ => trivial) HR3.out HB3.out (HN.out ▸ HB3.out.size) (by omega) ?_; intro u1 w4 hr4 hb4 hg4 hat4; obtain ⟨A4, c4, rfl⟩ := Kd.R_slice hr4; have M1 := Lib.hid ((hg4.block _ (blk_lt L1.out) (Kd.R_ne HR3.out L1.out (by decide))).trans L1.out); have M2 := Lib.hid ((hg4.block _ (blk_lt L2.out) (Kd.R_ne HR3.out L2.out (by decide))).trans L2.out); have M3 := Lib.hid ((hg4.block _ (blk_lt L3.out) (Kd.R_ne HR3.out L3.out (by decide))).trans L3.out); have HR4 := Lib.hid hr4; have HB4 := Lib.hid hb4; clear hr4 hg4 hat4 hb4))
    obtain ⟨L, hL⟩ : ∃ L, callE f x s j ++ [⟨0, a, d⟩] = L := ⟨_, rfl⟩
    rw [hL] at HR4 HS2
    have hL1 : (callE f x s j).length + 1 = L.length := by rw [← hL, List.length_append]; rfl
    rw [hL1]
    have hcl2 : L.length ≤ j * (x.f6.length + 1) + 1 := by rw [← hL, List.length_append]; simp; omega
    clear hcl hL hL1 HS r0 b9 y0 HR3 HB3 L1 L2 L3 hcl8
   all_goals
    go_wp2_with fail
    clear y1 HRC hm1
    obtain ⟨wo, rfl⟩ : ∃ wo : World, wo = w4 := ⟨_, rfl⟩
    go_loopw [7, 10] (fun v i wr => ∃ q : Nat, q ≤ x.f6.length ∧ i = .int .i64 q ∧ k144.R 144 wr N (fun _ => True) v (L ++ resE f x.f6 row a q) ∧ wr.heap[N]? = some (.cells #[.int .i64 f.f0, .int .i64 f.f1, .int .i64 f.f2, .slice A3 n3 c3] 66 (0, 0)) ∧ wr.heap[N + 1]? = some (.cells #[.int .i64 x.f0, .int .i64 x.f1, .int .i64 x.f2, .int .i64 x.f3, .int .i64 x.f4, .slice (some ad) x.f5.length c5, .slice A6 x.f6.length c6] 79 (0, 0)) ∧ wr.heap[N + 1 + 1]? = some (.cells #[.slice (some bd) s.f0.length d0, .slice (some ed) s.f1.length d1] 34 (0, 0)) ∧ Below N w wr) (fun _ i _ => x.f6.length - (intOf i).toNat)
    case atStart => exact ⟨0, by omega, rfl, by simp only [resE, List.append_nil]; exact HR4.out, M1.out, M2.out, M3.out, HB4.out⟩
    case round =>
     clear HR4 HB4 M1 M2 M3
     obtain ⟨q, hq, rfl, hr0, k1, k2, k3, hb⟩ := hrel
     have HR := Lib.hid hr0
     have HB := Lib.hid hb
     have K1 := Lib.hid k1
     have K2 := Lib.hid k2
     have K3 := Lib.hid k3
     clear hr0 k1 k2 k3 hb
     have hql := resE_length f x.f6 row a q
     obtain ⟨P, hP⟩ : ∃ P, L ++ resE f x.f6 row a q = P := ⟨_, rfl⟩
     have hPl : P.length ≤ 100 := by
      have : j * (x.f6.length + 1) ≤ 8 * 5 := Nat.mul_le_mul (by omega) (by omega)
      rw [← hP, List.length_append]
      omega
     rw [hP] at HR
     obtain ⟨Ar, cr, rfl⟩ := Kd.R_slice HR.out
     have q6 := blk_cell K2.out 6
     have r1 := blk_cell K3.out 1
     simp only [List.getElem?_toArray, List.getElem?_cons_succ, List.getElem?_cons_zero] at q6 r1
     by_cases hlq : q < x.f6.length
     ·have hbw : Below w.heap.size w wr := HN.out ▸ HB.out
      obtain ⟨td, hT, t6⟩ := Kd.at_int H6.out (q : Int) (by omega) (by omega)
      obtain ⟨ed', R1, m1, hE, y1, hm1, hRC⟩ := at_L1 G1.out (j : Int) (by omega) (by omega)
      injection hE with hE
      subst hE
      have er1 : rd_L1 s.f1 (j : Int) = row := by rw [rd_L1, Int.toNat_natCast]; exact HRW.out
      rw [er1, Int.toNat_natCast] at y1
      rw [er1] at hm1 hRC
      rw [HROW.out] at y1 hm1 hRC
      obtain ⟨gd, hG, z1⟩ := Kd.at_int hRC (q : Int) (by omega) (by omega)
      obtain ⟨t, ht⟩ : ∃ t, x.f6.getD q 0 = t := ⟨_, rfl⟩
      obtain ⟨dq, hdq⟩ : ∃ dq, row.getD q 0 = dq := ⟨_, rfl⟩
      have e6 : rd x.f6 (q : Int) = t := ht
      have eq0 : rd row (q : Int) = dq := hdq
      rw [e6, Int.toNat_natCast] at t6
      rw [eq0, Int.toNat_natCast] at z1
      have hvt := VR.out t (ht ▸ (by rw [List.getD_eq_getElem?_getD, List.getElem?_eq_getElem hlq]; exact List.getElem_mem _))
      have HVE := Lib.hid (varE_of hvt)
      have HVA := Lib.hid (var7_any f t A3 n3 c3 wr.drew hr hv)
      have HRS := Lib.hid (show L ++ resE f x.f6 row a (q + 1) = P ++ oneE (atE f t) a dq by rw [resE, ht, hdq, ← hP, List.append_assoc])
      subst hT
      subst hG
      have T6 := Lib.hid t6
      have Y1 := Lib.hid y1
      have Z1 := Lib.hid z1
      have w1 := below_cells hbw _ _ y1
      have w2 := below_cells hbw _ _ z1
      clear er1 ht hdq e6 eq0 hvt hRC t6 y1 z1 hP hql
      by_cases h9 : dq = 9
      ·have b9 : (dq != 9) = false := by simpa using h9
       have HR9 := Lib.hid (show L ++ resE f x.f6 row a (q + 1) = P by rw [HRS.out, oneE, if_pos h9, List.append_nil])
       clear h9
       go_wp2_with fail
       go_roundw
       case rel => exact ⟨q + 1, by omega, by go_num, by rw [HR9.out]; exact HR.out, K1.out, K2.out, K3.out, HB.out⟩
       case measure => simp [intOf]; omega
      ·have b9 : (dq != 9) = true := by simpa using h9
       have HR9 := Lib.hid (show L ++ resE f x.f6 row a (q + 1) = P ++ [⟨atE f t, a, dq⟩] by rw [HRS.out, oneE_some h9])
       clear h9
       have S9 := Lib.hid (fun (W' : World) (hb : Below N w W') (k1 : W'.heap[N]? = some (.cells #[.int .i64 f.f0, .int .i64 f.f1, .int .i64 f.f2, .slice A3 n3 c3] 66 (0, 0))) (k2 : W'.heap[N + 1]? = some (.cells #[.int .i64 x.f0, .int .i64 x.f1, .int .i64 x.f2, .int .i64 x.f3, .int .i64 x.f4, .slice (some ad) x.f5.length c5, .slice (some td) x.f6.length c6] 79 (0, 0))) (k3 : W'.heap[N + 1 + 1]? = some (.cells #[.slice (some bd) s.f0.length d0, .slice (some ed) s.f1.length d1] 34 (0, 0))) =>
        (show W'.cell? ⟨N, 0, none⟩ = some (.int .i64 f.f0) ∧ W'.cell? ⟨N, 1, none⟩ = some (.int .i64 f.f1) ∧ W'.cell? ⟨N, 2, none⟩ = some (.int .i64 f.f2) ∧ W'.cell? ⟨N, 3, none⟩ = some (.slice A3 n3 c3) ∧ W'.cell? ⟨N + 1, 6, none⟩ = some (.slice (some td) x.f6.length c6) ∧ W'.cell? (td.add q) = some (.int .i64 t) ∧ W'.cell? ⟨N + 1 + 1, 1, none⟩ = some (.slice (some ed) s.f1.length d1) ∧ W'.cell? (ed.add j) = some (.slice (some gd) x.f6.length m1) ∧ W'.cell? (gd.add q) = some (.int .i64 dq) from
         ⟨blk_cell k1 0, blk_cell k1 1, blk_cell k1 2, blk_cell k1 3, blk_cell k2 6, below_cells (HN.out ▸ hb) _ _ T6.out, blk_cell k3 1, below_cells (HN.out ▸ hb) _ _ Y1.out, below_cells (HN.out ▸ hb) _ _ Z1.out⟩))
       obtain ⟨v0, v1, v2, v3, v4, v5, v6, v7, v8⟩ := S9.out wr HB.out K1.out K2.out K3.out
       go_upto_region 12 with (fail)
       go_region_held3 (fun w' => w'.cell? ⟨N, 0, none⟩ = some (.int .i64 f.f0) ∧ w'.cell? ⟨N, 1, none⟩ = some (.int .i64 f.f1) ∧ w'.cell? ⟨N, 2, none⟩ = some (.int .i64 f.f2) ∧ w'.cell? ⟨N, 3, none⟩ = some (.slice A3 n3 c3) ∧ w'.cell? ⟨N + 1, 6, none⟩ = some (.slice (some td) x.f6.length c6) ∧ w'.cell? (td.add q) = some (.int .i64 t) ∧ w'.cell? ⟨N + 1 + 1, 1, none⟩ = some (.slice (some ed) s.f1.length d1) ∧ w'.cell? (ed.add j) = some (.slice (some gd) x.f6.length m1) ∧ w'.cell? (gd.add q) = some (.int .i64 dq))
        (first | (go_keep; done) | exact ⟨k0, k1, k2, k3, k4, k5, k6, k7, k8⟩)
        (first | (go_at_call 52; refine HVA.out.mono ?_; rintro e w5 ⟨rfl, hb5⟩; have hb5' : Below wr.heap.size wr w5 := Below.trans (below_drew (Below.refl _ wr)) hb5; have HB5 := Lib.hid (HB.out.trans (hb5'.mono (HN.out ▸ HB.out.size))); have HR5 := Lib.hid (Kd.R_below HR.out hb5'); have N1 := Lib.hid ((hb5'.block _ (blk_lt K1.out)).trans K1.out); have N2 := Lib.hid ((hb5'.block _ (blk_lt K2.out)).trans K2.out); have N3 := Lib.hid ((hb5'.block _ (blk_lt K3.out)).trans K3.out); obtain ⟨k0, k1, k2, k3, k4, k5, k6, k7, k8⟩ := S9.out w5 HB5.out N1.out N2.out N3.out; rw [HVE.out]; clear hb5 hb5') | (refine Kd.R_append_step k144 (w0 := w) (W := w5) N (by rfl) (.tmp 57) (.tmp 75) 83 144 (.agg #[.int .i64 0, .int .i64 0, .int .i64 0]) 24 rfl Tryz.underlying83 info_edg rfl (by decide) (by decide) (.slice Ar P.length cr) P (⟨atE f t, a, dq⟩ : Edg) [.int .i64 (atE f t), .int .i64 a, .int .i64 dq] (fun _ => True) (fun _ => False) rfl rfl (k144_mkM _ _ _ (⟨atE f t, a, dq⟩ : Edg)) (fun _ h => h.elim) (fun _ _ => trivial) HR5.out HB5.out (HN.out ▸ HB5.out.size) (by omega) ?_; intro u1 w6 hr6 hb6 hg6 hat6; have O1 := Lib.hid ((hg6.block _ (blk_lt N1.out) (Kd.R_ne HR5.out N1.out (by decide))).trans N1.out); have O2 := Lib.hid ((hg6.block _ (blk_lt N2.out) (Kd.R_ne HR5.out N2.out (by decide))).trans N2.out); have O3 := Lib.hid ((hg6.block _ (blk_lt N3.out) (Kd.R_ne HR5.out N3.out (by decide))).trans N3.out); clear k0 k1 k2 k3 k4 k5 k6 k7 k8; obtain ⟨k0, k1, k2, k3, k4, k5, k6, k7, k8⟩ := S9.out w6 hb6 O1.out O2.out O3.out; have HR6 := Lib.hid hr6; have HB6 := Lib.hid hb6; clear hr6 hb6 hg6 hat6))
       rename_i hHeld
       clear hHeld k0 k1 k2 k3 k4 k5 k6 k7 k8 v0 v1 v2 v3 v4 v5 v6 v7 v8
       go_wp2_with fail
       go_roundw
       case rel => exact ⟨q + 1, by omega, by go_num, by rw [HR9.out]; exact HR6.out, O1.out, O2.out, O3.out, HB6.out⟩
       case measure => simp [intOf]; omega
     ·obtain rfl : q = x.f6.length := by omega
      have HS3 := Lib.hid (show callE f x s (j + 1) = P by rw [HS2.out, hP])
      clear hlq hP
      go_wp2_with fail
      go_roundw
      case rel => exact ⟨j + 1, by omega, by go_num, by rw [HS3.out]; exact HR.out, K1.out, K2.out, K3.out, HB.out⟩
      case measure => simp [intOf]; omega
  ·obtain rfl : j = x.f5.length := by omega
   go_wp2_with fail
   go_ret
   exact ⟨_, rfl, HN.out ▸ HR.out, HN.out ▸ HB.out⟩
theorem edge_row (e : Edg) (W : World) (base : Nat) (hb : base ≤ W.heap.size) : k144.R 144 (W.alloc (.cells #[.int .i64 e.f0, .int .i64 e.f1, .int .i64 e.f2] 144)) base (fun _ => True) (.slice (some ⟨W.heap.size, 0, none⟩) 1 1) [e] :=
 ⟨fun _ _ => trivial, OwnRow.lit (ps := [e]) (inner := [.int .i64 e.f0, .int .i64 e.f1, .int .i64 e.f2]) W base ⟨rfl, fun j q hq => by
  have hj := (List.getElem?_eq_some_iff.1 hq).1
  obtain rfl : j = 0 := by simp at hj; exact hj
  obtain rfl : e = q := by simpa using hq
  exact k144_mkM _ _ _ e⟩ hb (by simp)⟩
structure Tellable (G : Int) (fs : List Fun) (sums : List Smm) (f : Fun) (x : Ins) : Prop where
 last : ∃ last, InsGood G fs f x last
 ok : InsOk sums x
 fit : x.f0 = 11 → fitsB (fs.getD x.f4.toNat zF) (sums.getD x.f4.toNat zS) = true
set_option maxRecDepth 100000 in
set_option maxHeartbeats 12800000 in
theorem instr7_any (G : Int) (fs : List Fun) (f : Fun) (a : Nat) (A3 : Option Addr) (c3 : Nat) (SA : Option Addr) (sums : List Smm) (sl : Nat) (w0 w : World) (hb0 : Below w0.heap.size w0 w) (hC : k79.C w0 A3 f.f3.length f.f3) (hS : k34.C w0 SA sums.length sums)
  (hH : HeadOk f) (ha : a < f.f3.length) (x : Ins) (hx : x = f.f3.getD a zI) (ht : Tellable G fs sums f x) :
  Calls Tryz.prog 102 #[.agg #[.int .i64 f.f0, .int .i64 f.f1, .int .i64 f.f2, .slice A3 f.f3.length c3], .int .i64 a, .slice SA sums.length sl] w
   fun e w' => ∃ v, e = .returned v ∧ k144.R 144 w' w.heap.size (fun _ => True) v (edgE f sums (1 + f.f1 + f.f2 + (newsTo f.f3 a : Int)) x) ∧ Below w.heap.size w w' := by
 have hr : 0 ≤ f.f1 ∧ f.f1 ≤ 4 := ⟨hH.r0, hH.r1⟩
 have hv : f.f2 ≤ 255 := hH.v1
 have hv0 : 0 ≤ f.f2 := by have h8 := hH.p1; have := hH.p0; split at h8 <;> omega
 have hn : f.f3.length ≤ 4096 := by have := hH.n1; omega
 obtain ⟨⟨last, hI⟩, hio, hfit⟩ := ht
 have hvar := fun {v : Int} (h : varOk f v = true) => (varE_of (var_of h) : varE f v = atE f v)
 have hR : Part.R ∈ table.getD x.f0.toNat [] → varE f x.f1 = atE f x.f1 := fun hp => hvar (need_ok (hI.part hp))
 have hS' : Part.S ∈ table.getD x.f0.toNat [] → varE f x.f2 = atE f x.f2 := fun hp => hvar (need_ok (hI.part hp))
 have HR := Lib.hid hR
 have HSV := Lib.hid hS'
 have HI := Lib.hid hI
 have HIO := Lib.hid hio
 have HFIT := Lib.hid hfit
 have HC := Lib.hid hC
 have HS := Lib.hid hS
 have HB0 := Lib.hid hb0
 have HX := Lib.hid hx
 clear hvar hR hS' hI hio hfit hC hS hb0 hx hH
 go_enter Tryz.func102, Tryz.ntmps102
 go_upto_region 1 with (fail)
 have hb1 := below1 w (.cells #[.int .i64 f.f0, .int .i64 f.f1, .int .i64 f.f2, .slice A3 f.f3.length c3] 66)
 have hn1 := alloc_new w (.cells #[.int .i64 f.f0, .int .i64 f.f1, .int .i64 f.f2, .slice A3 f.f3.length c3] 66)
 obtain ⟨N, hN⟩ : ∃ N, w.heap.size = N := ⟨_, rfl⟩
 have HN := Lib.hid hN
 have hN0 : w0.heap.size ≤ N := hN ▸ HB0.out.size
 rw [hN] at hb1 hn1 ⊢
 clear hN
 generalize World.alloc _ _ = W at hb1 hn1 ⊢
 have c0 := blk_cell hn1 0
 have c1 := blk_cell hn1 1
 have c2 := blk_cell hn1 2
 have c3' := blk_cell hn1 3
 simp only [List.getElem?_toArray, List.getElem?_cons_succ, List.getElem?_cons_zero] at c0 c1 c2 c3'
 have hb2 : Below w0.heap.size w0 W := HB0.out.trans (hb1.mono hN0)
 obtain ⟨ad, A5, c5, A6, c6, hA, x0, x1, x2, x3, x4, x5, x6, l5, h5, l6, h6⟩ := at_T79 (Kd.C_below HC.out hb2) (a : Int) (by omega) (by omega)
 obtain ⟨_, A5', c5', A6', c6', hA', _, _, _, _, _, y5, y6, _, h5', _, h6'⟩ := at_T79 HC.out (a : Int) (by omega) (by omega)
 rw [hA] at hA'
 injection hA' with hA'
 subst hA'
 have hxr : rd_T79 f.f3 (a : Int) = x := by rw [rd_T79, Int.toNat_natCast]; exact HX.out.symm
 rw [hxr] at x0 x1 x2 x3 x4 x5 x6 h5 h6 l5 l6 y5 y6 h5' h6'
 rw [Int.toNat_natCast] at x0 x1 x2 x3 x4 x5 x6 y5 y6
 have H5 : Hid ((Kd.int .i64).C w0 A5 x.f5.length x.f5) := Lib.hid (by
  have hq := (below_cells hb2 _ _ y5).symm.trans x5
  injection hq with hq
  obtain ⟨q0, _, _⟩ := Value.slice.inj hq
  subst q0
  exact h5')
 have H6 : Hid ((Kd.int .i64).C w0 A6 x.f6.length x.f6) := Lib.hid (by
  have hq := (below_cells hb2 _ _ y6).symm.trans x6
  injection hq with hq
  obtain ⟨q0, _, _⟩ := Value.slice.inj hq
  subst q0
  exact h6')
 have HF1 := Lib.hid hn1
 have HB1 := Lib.hid hb1
 subst hA
 clear hn1 hb1 hb2 hxr l5 h5 l6 h6 y5 y6 h5' h6'
 go_upto_region 2 with (fail)
 have hb3 := below1 W (.cells #[.int .i64 x.f0, .int .i64 x.f1, .int .i64 x.f2, .int .i64 x.f3, .int .i64 x.f4, .slice A5 x.f5.length c5, .slice A6 x.f6.length c6] 79)
 have hn3 := alloc_new W (.cells #[.int .i64 x.f0, .int .i64 x.f1, .int .i64 x.f2, .int .i64 x.f3, .int .i64 x.f4, .slice A5 x.f5.length c5, .slice A6 x.f6.length c6] 79)
 obtain ⟨X, hX⟩ : ∃ X, W.heap.size = X := ⟨_, rfl⟩
 have hNX : N < X := hX ▸ blk_lt HF1.out
 have HF2 := Lib.hid ((hb3.block _ (blk_lt HF1.out)).trans HF1.out)
 have HB2 := Lib.hid (HB1.out.trans (hb3.mono (by omega)))
 rw [hX] at hn3 ⊢
 have HX2 := Lib.hid hn3
 clear hb3 hX hn3 HF1 HB1 c0 c1 c2 c3' x0 x1 x2 x3 x4 x5 x6
 generalize World.alloc _ _ = W2 at HF2 HX2 HB2 ⊢
 have c0 := blk_cell HF2.out 0
 have c1 := blk_cell HF2.out 1
 have c2 := blk_cell HF2.out 2
 have c3' := blk_cell HF2.out 3
 have y1 := blk_cell HX2.out 1
 simp only [List.getElem?_toArray, List.getElem?_cons_succ, List.getElem?_cons_zero] at c0 c1 c2 c3' y1
 go_wp2_with fail
 refine (var7_any f x.f1 (some ad) f.f3.length c3 W2 hr hv).mono ?_
 rintro e W3 ⟨rfl, hb3⟩
 obtain ⟨r, hr0⟩ : ∃ r, varE f x.f1 = r := ⟨_, rfl⟩
 rw [hr0]
 have HVR := Lib.hid hr0
 clear hr0
 have HF3 := Lib.hid ((hb3.block _ (blk_lt HF2.out)).trans HF2.out)
 have HX3 := Lib.hid ((hb3.block _ (blk_lt HX2.out)).trans HX2.out)
 have HB3 := Lib.hid (HB2.out.trans (hb3.mono (by have := blk_lt HX2.out; omega)))
 clear hb3 c0 c1 c2 c3' y1 HF2 HX2 HB2
 have c0 := blk_cell HF3.out 0
 have c1 := blk_cell HF3.out 1
 have c2 := blk_cell HF3.out 2
 have c3' := blk_cell HF3.out 3
 have y2 := blk_cell HX3.out 2
 simp only [List.getElem?_toArray, List.getElem?_cons_succ, List.getElem?_cons_zero] at c0 c1 c2 c3' y2
 go_wp2_with fail
 refine (var7_any f x.f2 (some ad) f.f3.length c3 W3 hr hv).mono ?_
 rintro e W4 ⟨rfl, hb4⟩
 obtain ⟨s, hs0⟩ : ∃ s, varE f x.f2 = s := ⟨_, rfl⟩
 rw [hs0]
 have HVS := Lib.hid hs0
 clear hs0
 have HF4 := Lib.hid ((hb4.block _ (blk_lt HF3.out)).trans HF3.out)
 have HX4 := Lib.hid ((hb4.block _ (blk_lt HX3.out)).trans HX3.out)
 have HB4 := Lib.hid (HB3.out.trans (hb4.mono (by have := blk_lt HX3.out; omega)))
 clear hb4 c0 c1 c2 c3' y2 HF3 HX3 HB3
 have c0 := blk_cell HF4.out 0
 have c1 := blk_cell HF4.out 1
 have c2 := blk_cell HF4.out 2
 have c3' := blk_cell HF4.out 3
 have y0 := blk_cell HX4.out 0
 simp only [List.getElem?_toArray, List.getElem?_cons_succ, List.getElem?_cons_zero] at c0 c1 c2 c3' y0
 obtain ⟨nx, hnx⟩ : ∃ nx : Int, nx = 1 + f.f1 + f.f2 + (newsTo f.f3 a : Int) := ⟨_, rfl⟩
 have HNX := Lib.hid hnx
 have HNS : Hid (N ≤ W4.heap.size) := Lib.hid (by have := blk_lt HF4.out; omega)
 clear hnx
 go_upto_region 5 with (fail)
 obtain ⟨o, ho⟩ : ∃ o, x.f0 = o := ⟨_, rfl⟩
 have hor := HIO.out.op
 rw [ho] at hor ⊢
 have HO := Lib.hid ho
 clear y0
 by_cases h2 : o = 2
 ·subst h2
  have HE := Lib.hid (show edgE f sums nx x = [(⟨r, s, 0⟩ : Edg)] by
   unfold edgE
   rw [ho, ← HR.out (by rw [ho]; decide), HVR.out, ← HSV.out (by rw [ho]; decide), HVS.out]
   simp)
  go_wp2_with fail
  go_ret
  exact ⟨_, rfl, by rw [← HNX.out, HE.out, HN.out]; exact edge_row (⟨r, s, 0⟩ : Edg) W4 N HNS.out, by rw [HN.out]; exact HB4.out.trans ((below1 W4 _).mono HNS.out)⟩
 by_cases h5 : o = 5
 ·subst h5
  have HE := Lib.hid (show edgE f sums nx x = [(⟨r, s, -1⟩ : Edg)] by
   unfold edgE
   rw [ho, ← HR.out (by rw [ho]; decide), HVR.out, ← HSV.out (by rw [ho]; decide), HVS.out]
   simp)
  go_wp2_with fail
  go_ret
  exact ⟨_, rfl, by rw [← HNX.out, HE.out, HN.out]; exact edge_row (⟨r, s, -1⟩ : Edg) W4 N HNS.out, by rw [HN.out]; exact HB4.out.trans ((below1 W4 _).mono HNS.out)⟩
 by_cases h7 : o = 7
 ·subst h7
  have HE := Lib.hid (show edgE f sums nx x = [(⟨r, s, 1⟩ : Edg)] by
   unfold edgE
   rw [ho, ← HR.out (by rw [ho]; decide), HVR.out, ← HSV.out (by rw [ho]; decide), HVS.out]
   simp)
  go_wp2_with fail
  go_ret
  exact ⟨_, rfl, by rw [← HNX.out, HE.out, HN.out]; exact edge_row (⟨r, s, 1⟩ : Edg) W4 N HNS.out, by rw [HN.out]; exact HB4.out.trans ((below1 W4 _).mono HNS.out)⟩
 by_cases h8 : o = 8
 ·subst h8
  have HE := Lib.hid (show edgE f sums nx x = [(⟨0, s, 0⟩ : Edg)] by
   unfold edgE
   rw [ho, ← HSV.out (by rw [ho]; decide), HVS.out]
   simp)
  go_wp2_with fail
  go_ret
  exact ⟨_, rfl, by rw [← HNX.out, HE.out, HN.out]; exact edge_row (⟨0, s, 0⟩ : Edg) W4 N HNS.out, by rw [HN.out]; exact HB4.out.trans ((below1 W4 _).mono HNS.out)⟩
 by_cases h10 : o = 10
 ·subst h10
  have HE := Lib.hid (show edgE f sums nx x = [(⟨0, s, 0⟩ : Edg)] by
   unfold edgE
   rw [ho, ← HSV.out (by rw [ho]; decide), HVS.out]
   simp)
  go_wp2_with fail
  go_ret
  exact ⟨_, rfl, by rw [← HNX.out, HE.out, HN.out]; exact edge_row (⟨0, s, 0⟩ : Edg) W4 N HNS.out, by rw [HN.out]; exact HB4.out.trans ((below1 W4 _).mono HNS.out)⟩
 have hbw : Below w0.heap.size w0 W4 := HB0.out.trans (HB4.out.mono hN0)
 by_cases h6 : o = 6
 ·subst h6
  have HE := Lib.hid (show edgE f sums nx x = [(⟨r, nx, -1⟩ : Edg)] by
   unfold edgE
   rw [ho, ← HR.out (by rw [ho]; decide), HVR.out]
   simp)
  have HCE := Lib.hid (cell7_any f a (some ad) c3 W4 (Kd.C_below HC.out hbw) hr ⟨hv0, hv⟩ hn ha (by rw [← HX.out]; exact ho))
  clear ho
  go_wp2_with fail
  refine HCE.out.mono ?_
  rintro e W5 ⟨rfl, hb5⟩
  rw [← HNX.out]
  have HB5 := Lib.hid (HB4.out.trans (hb5.mono HNS.out))
  have HNS5 := Lib.hid (Nat.le_trans HNS.out hb5.size)
  clear hb5 HCE
  go_wp2_with fail
  go_ret
  exact ⟨_, rfl, by rw [← HNX.out, HE.out, HN.out]; exact edge_row (⟨r, nx, -1⟩ : Edg) W5 N HNS5.out, by rw [HN.out]; exact HB5.out.trans ((below1 W5 _).mono HNS5.out)⟩
 by_cases h11 : o = 11
 ·subst h11
  have HE := Lib.hid (show edgE f sums nx x = callE f x (sums.getD x.f4.toNat zS) x.f5.length by
   unfold edgE
   rw [ho]
   simp)
  obtain ⟨hx4, e0, e1, er⟩ := HIO.out.call ho
  have hA := list_of (HI.out.part (p := .A) (by rw [ho]; decide))
  have hB := list_of (HI.out.part (p := .B) (by rw [ho]; decide))
  obtain ⟨sd, S0, l0, S1, l1, hSd, g0, g1, _, hS0, _, hS1⟩ := at_T34 (Kd.C_below HS.out hbw) x.f4 hx4.1 hx4.2
  obtain ⟨gs, hgs⟩ : ∃ gs, gs = sums.getD x.f4.toNat zS := ⟨_, rfl⟩
  have hgs' : rd_T34 sums x.f4 = gs := hgs.symm
  rw [hgs'] at g0 g1 hS0 hS1
  rw [← hgs] at HE e0 e1 er
  have HC7 := Lib.hid (call7_any f (some ad) f.f3.length c3 x A5 c5 A6 c6 gs S0 l0 S1 l1 W4.drew (Kd.C_below H5.out (below_drew hbw)) (Kd.C_below H6.out (below_drew hbw)) hS0 hS1 hr hv hA.2 hB.2 HIO.out.l5 HIO.out.l6 e0 e1 er)
  have y0 := blk_cell HX4.out 0
  have y1 := blk_cell HX4.out 1
  have y2 := blk_cell HX4.out 2
  have y3 := blk_cell HX4.out 3
  have y4 := blk_cell HX4.out 4
  have y5 := blk_cell HX4.out 5
  have y6 := blk_cell HX4.out 6
  simp only [List.getElem?_toArray, List.getElem?_cons_succ, List.getElem?_cons_zero] at y0 y1 y2 y3 y4 y5 y6
  rw [ho] at y0 HC7
  have hx40 := hx4.1
  have hx41 := hx4.2
  subst hSd
  clear ho hx4 e0 e1 er hA hB hgs hgs' hS0 hS1
  go_upto_region 17 with (fail)
  go_still_tail 7, (by kernel_rfl)
  change wpList _ _ _ _ _ W4.drew
  go_wp2_with fail
  refine HC7.out.mono ?_
  rintro e W5 ⟨v, rfl, hrv, hb5⟩
  have HRV := Lib.hid (Kd.R_lower hrv (show N ≤ W4.drew.heap.size from HNS.out))
  have HB5 := Lib.hid (HB4.out.trans ((Below.trans (below_drew (Below.refl _ W4)) hb5 : Below W4.heap.size W4 W5).mono HNS.out))
  clear hrv hb5 HC7
  go_wp2_with fail
  go_ret
  exact ⟨_, rfl, by rw [← HNX.out, HE.out, HN.out]; exact HRV.out, by rw [HN.out]; exact HB5.out⟩
 by_cases h15 : o = 15
 ·subst h15
  have HE := Lib.hid (show edgE f sums nx x = retE f x.f5 by
   unfold edgE
   rw [ho]
   simp)
  have VA := Lib.hid (list_of (HI.out.part (p := .V) (by rw [ho]; decide))).2
  have hl5 := HIO.out.l5
  obtain ⟨ob, hob⟩ : ∃ ob, ob = Obj.cells #[.int .i64 x.f0, .int .i64 x.f1, .int .i64 x.f2, .int .i64 x.f3, .int .i64 x.f4, .slice A5 x.f5.length c5, .slice A6 x.f6.length c6] 79 (0, 0) := ⟨_, rfl⟩
  have HOB := Lib.hid hob
  rw [← hob] at HX4
  clear ho hob
  go_wp2_with fail
  clear c0 c1 c2 c3' hbw
  obtain ⟨wo, rfl⟩ : ∃ wo : World, wo = W4 := ⟨_, rfl⟩
  go_loopw [10, 11] (fun v i wr => ∃ q : Nat, q ≤ x.f5.length ∧ i = .int .i64 q ∧ k144.R 144 wr N (fun _ => True) v ((retE f x.f5).take q) ∧ wr.heap[N]? = some (.cells #[.int .i64 f.f0, .int .i64 f.f1, .int .i64 f.f2, .slice (some ad) f.f3.length c3] 66 (0, 0)) ∧ wr.heap[X]? = some ob ∧ Below N w wr) (fun _ i _ => x.f5.length - (intOf i).toNat)
  case atStart => exact ⟨0, by omega, rfl, by rw [List.take_zero]; exact Kd.R_nil _ _ _ _ _, HF4.out, HX4.out, HB4.out⟩
  case round =>
   clear HF4 HX4 HB4 HNS
   obtain ⟨q, hq, rfl, hr0, k1, k2, hb⟩ := hrel
   have HR' := Lib.hid hr0
   have HB := Lib.hid hb
   have K1 := Lib.hid k1
   have K2 := Lib.hid k2
   clear hr0 k1 k2 hb
   have hpl : ((retE f x.f5).take q).length = q := by rw [List.length_take, retE_length]; omega
   obtain ⟨Ar, cr, hv0'⟩ := Kd.R_slice HR'.out
   rw [hpl] at hv0'
   subst hv0'
   have z5 := blk_cell (HOB.out ▸ K2.out) 5
   simp only [List.getElem?_toArray, List.getElem?_cons_succ, List.getElem?_cons_zero] at z5
   by_cases hlq : q < x.f5.length
   ·obtain ⟨td, hT, t5⟩ := Kd.at_int H5.out (q : Int) (by omega) (by omega)
    obtain ⟨t, ht⟩ : ∃ t, x.f5.getD q 0 = t := ⟨_, rfl⟩
    have e5 : rd x.f5 (q : Int) = t := ht
    rw [e5, Int.toNat_natCast] at t5
    have hvt := VA.out t (ht ▸ (by rw [List.getD_eq_getElem?_getD, List.getElem?_eq_getElem hlq]; exact List.getElem_mem _))
    have HVE := Lib.hid (varE_of hvt)
    have HVA := Lib.hid (var7_any f t (some ad) f.f3.length c3 wr.drew hr hv)
    have HT := Lib.hid (show (retE f x.f5).take (q + 1) = (retE f x.f5).take q ++ [⟨1 + (q : Int), atE f t, 0⟩] by rw [retE_take f x.f5 hlq, ht])
    have T5 := Lib.hid t5
    subst hT
    clear ht e5 hvt t5
    have S6 := Lib.hid (fun (W' : World) (hb : Below N w W') (k1 : W'.heap[N]? = some (.cells #[.int .i64 f.f0, .int .i64 f.f1, .int .i64 f.f2, .slice (some ad) f.f3.length c3] 66 (0, 0))) (k2 : W'.heap[X]? = some ob) =>
     (show W'.cell? ⟨N, 0, none⟩ = some (.int .i64 f.f0) ∧ W'.cell? ⟨N, 1, none⟩ = some (.int .i64 f.f1) ∧ W'.cell? ⟨N, 2, none⟩ = some (.int .i64 f.f2) ∧ W'.cell? ⟨N, 3, none⟩ = some (.slice (some ad) f.f3.length c3) ∧ W'.cell? ⟨X, 5, none⟩ = some (.slice (some td) x.f5.length c5) ∧ W'.cell? (td.add q) = some (.int .i64 t) from
      ⟨blk_cell k1 0, blk_cell k1 1, blk_cell k1 2, blk_cell k1 3, blk_cell (HOB.out ▸ k2) 5, below_cells (HB0.out.trans (hb.mono hN0)) _ _ T5.out⟩))
    have N2E := Lib.hid (show ∀ (W' : World), W'.heap[X]? = some ob → k144.R 144 W' N (fun _ => True) (.slice Ar q cr) ((retE f x.f5).take q) → some X ≠ (Value.slice Ar q cr).ownBlock from fun W' k2 hr' => Kd.R_ne hr' (HOB.out ▸ k2) (by decide))
    have hs1 : IntKind.i64.wrap (1 + (q : Int)) = 1 + (q : Int) := IntWalk.i64_in _ (by omega)
    obtain ⟨v0, v1, v2, v3, v4, v5⟩ := S6.out wr HB.out K1.out K2.out
    go_upto_region 23 with (fail)
    go_region_held3 (fun w' => w'.cell? ⟨N, 0, none⟩ = some (.int .i64 f.f0) ∧ w'.cell? ⟨N, 1, none⟩ = some (.int .i64 f.f1) ∧ w'.cell? ⟨N, 2, none⟩ = some (.int .i64 f.f2) ∧ w'.cell? ⟨N, 3, none⟩ = some (.slice (some ad) f.f3.length c3) ∧ w'.cell? ⟨X, 5, none⟩ = some (.slice (some td) x.f5.length c5) ∧ w'.cell? (td.add q) = some (.int .i64 t))
     (first | (go_keep; done) | exact ⟨k0, k1, k2, k3, k4, k5⟩)
     (first | (go_at_call 52; refine HVA.out.mono ?_; rintro e w5 ⟨rfl, hb5⟩; have hb5' : Below wr.heap.size wr w5 := Below.trans (below_drew (Below.refl _ wr)) hb5; have HB5 := Lib.hid (HB.out.trans (hb5'.mono (HN.out ▸ HB.out.size))); have HR5 := Lib.hid (Kd.R_below HR'.out hb5'); have N1 := Lib.hid ((hb5'.block _ (blk_lt K1.out)).trans K1.out); have N2 := Lib.hid ((hb5'.block _ (blk_lt K2.out)).trans K2.out); obtain ⟨k0, k1, k2, k3, k4, k5⟩ := S6.out w5 HB5.out N1.out N2.out; rw [HVE.out]; clear hb5 hb5') | (refine Kd.R_append_step k144 (w0 := w) (W := w5) N (by rfl) (.tmp 78) (.tmp 89) 83 144 (.agg #[.int .i64 0, .int .i64 0, .int .i64 0]) 24 rfl Tryz.underlying83 info_edg rfl (by decide) (by decide) (.slice Ar q cr) ((retE f x.f5).take q) (⟨1 + (q : Int), atE f t, 0⟩ : Edg) [.int .i64 (1 + (q : Int)), .int .i64 (atE f t), .int .i64 0] (fun _ => True) (fun _ => False) rfl rfl (k144_mkM _ _ _ (⟨1 + (q : Int), atE f t, 0⟩ : Edg)) (fun _ h => h.elim) (fun _ _ => trivial) HR5.out HB5.out (HN.out ▸ HB5.out.size) (by rw [hpl]; omega) ?_; intro u1 w6 hr6 hb6 hg6 hat6; have O1 := Lib.hid ((hg6.block _ (blk_lt N1.out) (Kd.R_ne HR5.out N1.out (by decide))).trans N1.out); have O2 := Lib.hid ((hg6.block _ (blk_lt N2.out) (N2E.out _ N2.out HR5.out)).trans N2.out); clear k0 k1 k2 k3 k4 k5; obtain ⟨k0, k1, k2, k3, k4, k5⟩ := S6.out w6 hb6 O1.out O2.out; have HR6 := Lib.hid hr6; have HB6 := Lib.hid hb6; clear hr6 hb6 hg6 hat6))
    rename_i hHeld
    clear hHeld k0 k1 k2 k3 k4 k5 v0 v1 v2 v3 v4 v5 z5 hs1
    go_wp2_with fail
    go_roundw
    case rel => exact ⟨q + 1, by omega, by go_num, by rw [HT.out]; exact HR6.out, O1.out, O2.out, HB6.out⟩
    case measure => simp [intOf]; omega
   ·obtain rfl : q = x.f5.length := by omega
    have HTK := Lib.hid (show (retE f x.f5).take x.f5.length = retE f x.f5 from List.take_of_length_le (by rw [retE_length]; exact Nat.le_refl _))
    go_wp2_with fail
    go_ret
    exact ⟨_, rfl, by rw [← HNX.out, HE.out, ← HTK.out, HN.out]; exact HR'.out, by rw [HN.out]; exact HB.out⟩
 have b2 : (o == 2) = false := beq_eq_false_iff_ne.2 h2
 have b5 : (o == 5) = false := beq_eq_false_iff_ne.2 h5
 have b7 : (o == 7) = false := beq_eq_false_iff_ne.2 h7
 have b8 : (o == 8) = false := beq_eq_false_iff_ne.2 h8
 have b10 : (o == 10) = false := beq_eq_false_iff_ne.2 h10
 have b6 : (o == 6) = false := beq_eq_false_iff_ne.2 h6
 have b11 : (o == 11) = false := beq_eq_false_iff_ne.2 h11
 have b15 : (o == 15) = false := beq_eq_false_iff_ne.2 h15
 have HE := Lib.hid (show edgE f sums nx x = [] by
  unfold edgE
  rw [ho, if_neg h2, if_neg h5, if_neg h7, if_neg (by omega), if_neg h6, if_neg h11, if_neg h15])
 clear h2 h5 h7 h8 h10 h6 h11 h15 ho hor
 go_wp2_with fail
 go_ret
 exact ⟨_, rfl, by rw [← HNX.out, HE.out]; exact Kd.R_nil _ _ _ _ _, by rw [HN.out]; exact HB4.out⟩
open Go.RowKit Go.Proofs.YtcbcacbbnojdjaaGreatDoorW.PrintWords Go.Proofs.YtcbcacbbnojdjaaGreatDoor.PSolveFunctions
def headB (f : Fun) : Bool := match headQ 0 f 1 with
 | .ok _ => true
 | .error _ => false
theorem headB_iff (f : Fun) : headB f = true ↔ HeadOk (headF f) := by
 unfold headB
 have e : headQ 0 f 1 = headQ 0 (headF f) (headF f).f3.length := rfl
 constructor
 ·intro h
  cases hq : headQ 0 f 1 with
  | ok l => rw [e] at hq; exact head_of hq
  | error x => rw [hq] at h; cases h
 ·intro h
  have hv := h.v1
  have := h.asked (l := 0) (by dsimp only at hv ⊢; omega)
  rw [e, this]
set_option maxRecDepth 100000 in
set_option maxHeartbeats 6400000 in
theorem headOne_any (f : Fun) (A : Option Addr) (k c : Nat) (w : World) :
  Calls Tryz.prog 132 #[.agg #[.int .i64 f.f0, .int .i64 f.f1, .int .i64 f.f2, .slice A k c]] w fun e w' => e = .returned (.bool (headB f)) ∧ Below w.heap.size w w' := by
 obtain ⟨q, hq⟩ : ∃ q, q = headQ 0 f 1 := ⟨_, rfl⟩
 have HQ := Lib.hid hq
 clear hq
 go_enter Tryz.func132, Tryz.ntmps132
 go_upto_region 2 with (fail)
 have hb0 := (below1 w (.cells #[.int .i64 f.f0, .int .i64 f.f1, .int .i64 f.f2, .slice A k c] 66)).alloc (by simp) (.cells #[.int .i64 0, .slice none 0 0, .int .i64 0, .int .i64 0] 167)
 have f1 := alloc_first w #[.int .i64 f.f0, .int .i64 f.f1, .int .i64 f.f2, .slice A k c] 66 (.cells #[.int .i64 0, .slice none 0 0, .int .i64 0, .int .i64 0] 167)
 have f2 := alloc_second w (.cells #[.int .i64 f.f0, .int .i64 f.f1, .int .i64 f.f2, .slice A k c] 66) #[.int .i64 0, .slice none 0 0, .int .i64 0, .int .i64 0] 167
 generalize World.alloc _ _ = W at hb0 f1 f2 ⊢
 obtain ⟨N, hN⟩ : ∃ N, w.heap.size = N := ⟨_, rfl⟩
 rw [hN] at hb0 f1 f2 ⊢
 have HB := Lib.hid hb0
 have HN := Lib.hid hN
 clear hb0 hN
 have c0 := blk_cell f1 0
 have c1 := blk_cell f1 1
 have c2 := blk_cell f1 2
 have c3 := blk_cell f1 3
 simp only [List.getElem?_toArray, List.getElem?_cons_succ, List.getElem?_cons_zero] at c0 c1 c2 c3
 have HW := Lib.hid (headR_any (N + 1) (.int .i64 0) (.slice none 0 0) 0 f A k c 1 W f2 (by omega) (by omega))
 rw [← HQ.out] at HW
 clear f1 f2
 go_wp2_with fail
 refine HW.out.mono ?_
 rintro e w1 ⟨rfl, hk, hm⟩
 have HB1 := Lib.hid (hk.below HB.out (Nat.le_of_eq HN.out.symm) (by omega))
 obtain ⟨l', e', hw, he⟩ : ∃ l' e', WalkAt w1 (N + 1) (.int .i64 0) (.slice none 0 0) l' e' ∧ (e' == 0) = headB f := by
  unfold headB
  rw [← HQ.out]
  cases q with
  | ok l => exact ⟨_, _, hm, rfl⟩
  | error x =>
   obtain ⟨l', hw⟩ := hm
   refine ⟨_, _, hw, ?_⟩
   have := headQ_err_ne HQ.out.symm
   simpa using this
 have HE := Lib.hid he
 clear hk hm he HW c0 c1 c2 c3
 have y3 := blk_cell hw 3
 simp only [List.getElem?_toArray, List.getElem?_cons_succ, List.getElem?_cons_zero] at y3
 clear hw
 go_wp2_with fail
 go_ret
 exact ⟨by rw [← HE.out]; rfl, HN.out ▸ HB1.out⟩
structure AlTo (G : Int) (fs : List Fun) (f : Fun) (l1 : Int) (k : Nat) (l : Int) : Prop where
 rn : runTo (instrQ G fs f) l1 k = .ok l
 lo : 0 ≤ l
 hi : l ≤ 255 + k
 cal : ∀ j, j < k → (f.f3.getD j zI).f0 = 11 → HeadOk (headF (fs.getD (f.f3.getD j zI).f4.toNat zF))
theorem AlTo.step {G : Int} {fs : List Fun} {f : Fun} {l1 l l' : Int} {k : Nat} (h : AlTo G fs f l1 k l) (hq : insQ G fs f l (f.f3.getD k zI) (decide (k + 1 = f.f3.length)) = .ok l') (hl : l < 1048575) (hc : (f.f3.getD k zI).f0 = 11 → HeadOk (headF (fs.getD (f.f3.getD k zI).f4.toNat zF))) : AlTo G fs f l1 (k + 1) l' := by
 have ha := (ins_of hq).asked (l := l) (fun _ => by omega)
 rw [hq] at ha
 injection ha with ha
 have lo := h.lo; have hi := h.hi
 refine ⟨(runTo_succ h.rn).trans ((instrQ_is _ _ _ _ _).trans hq), by split at ha <;> omega, by split at ha <;> omega, fun j hj h11 => ?_⟩
 by_cases hjk : j = k
 ·subst hjk; exact hc h11
 ·exact h.cal j (by omega) h11
theorem AlTo.done {G : Int} {fs : List Fun} {f : Fun} {l1 l : Int} (h : AlTo G fs f l1 f.f3.length l) (hG : 0 ≤ G ∧ G ≤ 16) (hH : HeadOk f) : FunOk G fs f :=
 ⟨hG, hH, fun k hk => by
  obtain ⟨_, _, _, h2⟩ := runTo_before h.rn k hk
  exact ins_of ((instrQ_is _ _ _ _ _).symm.trans h2), h.cal⟩
set_option maxRecDepth 100000 in
set_option maxHeartbeats 12800000 in
theorem alone_any (G : Int) (A : Option Addr) (c : Nat) (fs : List Fun) (fi : Int) (w : World) (hC : k66.C w A fs.length fs) (hlen : fs.length ≤ 2147483647) (hcode : ∀ f ∈ fs, f.f3.length ≤ 2147483646 ∧ ∀ x ∈ f.f3, x.f5.length ≤ 2147483647 ∧ x.f6.length ≤ 2147483647) :
  Calls Tryz.prog 100 #[.agg #[.int .i64 G, .slice A fs.length c], .int .i64 fi] w fun e w' => ∃ b, e = .returned (.bool b) ∧ (b = true ↔ (0 ≤ fi ∧ fi < fs.length) ∧ FunOk G fs (fs.getD fi.toNat zF)) ∧ Below w.heap.size w w' := by
 have HC := Lib.hid hC
 have HCODE := Lib.hid hcode
 clear hC hcode
 go_enter Tryz.func100, Tryz.ntmps100
 go_upto_region 1 with (fail)
 have hb0 := below1 w (.cells #[.int .i64 G, .slice A fs.length c] 24)
 have hn0 := alloc_new w (.cells #[.int .i64 G, .slice A fs.length c] 24)
 obtain ⟨N, hN⟩ : ∃ N, w.heap.size = N := ⟨_, rfl⟩
 have HN := Lib.hid hN
 rw [hN] at hb0 hn0 ⊢
 clear hN
 generalize World.alloc _ _ = W at hb0 hn0 ⊢
 have HB := Lib.hid hb0
 have HP := Lib.hid hn0
 clear hb0 hn0
 have p0 := blk_cell HP.out 0
 have p1 := blk_cell HP.out 1
 simp only [List.getElem?_toArray, List.getElem?_cons_succ, List.getElem?_cons_zero] at p0 p1
 by_cases g0 : G < 0
 ·have d0 : decide (G < 0) = true := decide_eq_true g0
  have HR := Lib.hid (show ¬ ((0 ≤ fi ∧ fi < fs.length) ∧ FunOk G fs (fs.getD fi.toNat zF)) from fun h => by have := h.2.G0; omega)
  clear g0
  go_wp2_with fail
  go_ret
  exact ⟨false, rfl, ⟨fun h => (by cases h), fun h => absurd h HR.out⟩, by rw [HN.out]; exact HB.out⟩
 have d0 : decide (G < 0) = false := decide_eq_false g0
 by_cases g1 : 16 < G
 ·have d1 : decide (16 < G) = true := decide_eq_true g1
  have d1' : decide (G > 16) = true := d1
  have HR := Lib.hid (show ¬ ((0 ≤ fi ∧ fi < fs.length) ∧ FunOk G fs (fs.getD fi.toNat zF)) from fun h => by have := h.2.G0; omega)
  clear g0 g1
  go_wp2_with fail
  go_ret
  exact ⟨false, rfl, ⟨fun h => (by cases h), fun h => absurd h HR.out⟩, by rw [HN.out]; exact HB.out⟩
 have d1 : decide (16 < G) = false := decide_eq_false g1
 have d1' : decide (G > 16) = false := d1
 have HG := Lib.hid (show 0 ≤ G ∧ G ≤ 16 by omega)
 clear g0 g1
 by_cases h0 : fi < 0
 ·have d2 : decide (fi < 0) = true := decide_eq_true h0
  have HR := Lib.hid (show ¬ ((0 ≤ fi ∧ fi < fs.length) ∧ FunOk G fs (fs.getD fi.toNat zF)) from fun h => by omega)
  clear h0
  go_wp2_with fail
  go_ret
  exact ⟨false, rfl, ⟨fun h => (by cases h), fun h => absurd h HR.out⟩, by rw [HN.out]; exact HB.out⟩
 have d2 : decide (fi < 0) = false := decide_eq_false h0
 by_cases h1 : (fs.length : Int) ≤ fi
 ·have d3 : decide ((fs.length : Int) ≤ fi) = true := decide_eq_true h1
  have HR := Lib.hid (show ¬ ((0 ≤ fi ∧ fi < fs.length) ∧ FunOk G fs (fs.getD fi.toNat zF)) from fun h => by omega)
  clear h0 h1
  go_wp2_with fail
  go_ret
  exact ⟨false, rfl, ⟨fun h => (by cases h), fun h => absurd h HR.out⟩, by rw [HN.out]; exact HB.out⟩
 have d3 : decide ((fs.length : Int) ≤ fi) = false := decide_eq_false h1
 have hf0 : 0 ≤ fi := by omega
 have hf1 : fi < fs.length := by omega
 clear h0 h1
 go_upto_region 4 with (fail)
 have hb1 := below1 W (.cells #[.int .i64 G, .slice A fs.length c, .int .i64 0, .int .i64 0] 167)
 have hn1 := alloc_new W (.cells #[.int .i64 G, .slice A fs.length c, .int .i64 0, .int .i64 0] 167)
 have HP1 := Lib.hid ((hb1.block _ (blk_lt HP.out)).trans HP.out)
 obtain ⟨g, hg⟩ : ∃ g, W.heap.size = g := ⟨_, rfl⟩
 have hNg : N < g := hg ▸ blk_lt HP.out
 have HB1 := Lib.hid (HB.out.trans (hb1.mono (by omega)))
 rw [hg] at hn1 ⊢
 clear hb1 hg p0 p1 HP HB d0 d1 d1' d2 d3
 generalize World.alloc _ _ = W1 at hn1 HP1 HB1 ⊢
 have HW := Lib.hid (show WalkAt W1 g (.int .i64 G) (.slice A fs.length c) 0 0 from hn1)
 clear hn1
 have p1 := blk_cell HP1.out 1
 simp only [List.getElem?_toArray, List.getElem?_cons_succ, List.getElem?_cons_zero] at p1
 obtain ⟨ad, FA, fc, hA, e0, e1, e2, e3, hfc, hC3⟩ := at_T66 (Kd.C_below HC.out (by rw [HN.out]; exact HB1.out)) fi hf0 hf1
 obtain ⟨_, FA', fc', hA', _, _, _, g3, _, hC0⟩ := at_T66 HC.out fi hf0 hf1
 obtain ⟨f, hf⟩ : ∃ f, f = fs.getD fi.toNat zF := ⟨_, rfl⟩
 have hf' : rd_T66 fs fi = f := hf.symm
 rw [hf'] at e0 e1 e2 e3 hfc hC3 g3 hC0
 have hfm : f ∈ fs := hf ▸ (by rw [List.getD_eq_getElem?_getD, List.getElem?_eq_getElem (show fi.toNat < fs.length by omega)]; exact List.getElem_mem _)
 have hcl := (HCODE.out f hfm).1
 have HIN := Lib.hid (HCODE.out f hfm).2
 have HF := Lib.hid hf
 have HCD : Hid (k79.C w FA f.f3.length f.f3) := Lib.hid (by
  rw [hA] at hA'
  injection hA' with hA'
  subst hA'
  have hq := (below_cells (HN.out ▸ HB1.out) _ _ g3).symm.trans e3
  injection hq with hq
  obtain ⟨q0, _, _⟩ := Value.slice.inj hq
  subst q0
  exact hC0)
 subst hA
 clear hf hf' hfm hC3 hA' g3 hC0
 go_upto_region 5 with (fail)
 have hb2 := below1 W1 (.cells #[.int .i64 f.f0, .int .i64 f.f1, .int .i64 f.f2, .slice FA f.f3.length fc] 66)
 have hn2 := alloc_new W1 (.cells #[.int .i64 f.f0, .int .i64 f.f1, .int .i64 f.f2, .slice FA f.f3.length fc] 66)
 have HP2 := Lib.hid ((hb2.block _ (blk_lt HP1.out)).trans HP1.out)
 have HW2 := Lib.hid (walk_below HW.out hb2)
 obtain ⟨b2, hbb⟩ : ∃ b2, W1.heap.size = b2 := ⟨_, rfl⟩
 have hgb : g < b2 := hbb ▸ blk_lt HW.out
 have HB2 := Lib.hid (HB1.out.trans (hb2.mono (by omega)))
 rw [hbb] at hn2 ⊢
 clear hb2 hbb p1 HP1 HB1 HW e0 e1 e2 e3
 generalize World.alloc _ _ = W2 at hn2 HP2 HB2 HW2 ⊢
 have HFN := Lib.hid hn2
 clear hn2
 have y0 := blk_cell HFN.out 0
 have y1 := blk_cell HFN.out 1
 have y2 := blk_cell HFN.out 2
 have y3 := blk_cell HFN.out 3
 simp only [List.getElem?_toArray, List.getElem?_cons_succ, List.getElem?_cons_zero] at y0 y1 y2 y3
 obtain ⟨q, hq⟩ : ∃ q, q = headQ 0 f f.f3.length := ⟨_, rfl⟩
 have HHD := Lib.hid (headR_any g (.int .i64 G) (.slice (some ad) fs.length c) 0 f FA f.f3.length fc f.f3.length W2 HW2.out (by omega) (by omega))
 rw [← hq] at HHD
 have HQ := Lib.hid hq
 clear hq
 go_wp2_with fail
 refine HHD.out.mono ?_
 rintro r w1 ⟨rfl, hk, hm⟩
 have HK1 := Lib.hid hk
 have HFN1 := Lib.hid ((hk.block _ (blk_lt HFN.out) (by omega)).trans HFN.out)
 have HBW := Lib.hid (hk.below HB2.out (Nat.le_of_eq HN.out.symm) (by omega))
 have HST : Hid ((∃ l : Int, HeadOk f ∧ headQ 0 f f.f3.length = .ok l ∧ WalkAt w1 g (.int .i64 G) (.slice (some ad) fs.length c) l 0) ∨ (¬ HeadOk f ∧ ∃ l ez, ez ≠ 0 ∧ WalkAt w1 g (.int .i64 G) (.slice (some ad) fs.length c) l ez)) := Lib.hid (by
  cases hq : q with
  | ok l =>
   rw [hq] at hm
   have e := HQ.out.symm.trans hq
   exact .inl ⟨l, head_of e, e, hm⟩
  | error x =>
   rw [hq] at hm
   obtain ⟨l', hw⟩ := hm
   have e := HQ.out.symm.trans hq
   refine .inr ⟨fun hh => ?_, l', x, headQ_err_ne e, hw⟩
   have hv := hh.v1
   rw [hh.asked (by omega)] at e
   cases e)
 clear hk hm HHD HW2 y0 y1 y2 y3 HB2
 go_wp2_with fail
 rcases HST.out with ⟨l, hH, hq0, hw⟩ | ⟨hnH, l, ez, hz, hw⟩
 ·have hl0 : l = 0 + f.f2 := by
   rw [hH.asked (by have := hH.v1; omega)] at hq0
   injection hq0 with hq0
   exact hq0.symm
  have h20 : 0 ≤ f.f2 := by have h8 := hH.p1; have := hH.p0; split at h8 <;> omega
  have h21 := hH.v1
  have hn4 : f.f3.length ≤ 4096 := by have := hH.n1; omega
  have HH := Lib.hid hH
  have HW1 := Lib.hid hw
  have HAL := Lib.hid (show AlTo G fs f l 0 l from ⟨rfl, by omega, by omega, fun j hj => absurd hj (by omega)⟩)
  clear hH hw hq0 HST HQ h20 h21
  obtain ⟨l1, hl1⟩ : ∃ l1, l1 = l := ⟨_, rfl⟩
  rw [← hl1] at HAL
  clear hl0
  obtain ⟨wo, rfl⟩ : ∃ wo : World, wo = w1 := ⟨_, rfl⟩
  go_loopw [7] (fun i wr => ∃ k : Nat, k ≤ f.f3.length ∧ i = .int .i64 k ∧ Kept g W2 wr ∧ Below N w wr ∧ ((∃ l : Int, AlTo G fs f l1 k l ∧ WalkAt wr g (.int .i64 G) (.slice (some ad) fs.length c) l 0) ∨ (¬ FunOk G fs f ∧ ∃ l ez, ez ≠ 0 ∧ WalkAt wr g (.int .i64 G) (.slice (some ad) fs.length c) l ez))) (fun i _ => f.f3.length - (intOf i).toNat)
  case atStart => exact ⟨0, by omega, rfl, HK1.out, HBW.out, .inl ⟨l, by have := HAL.out; rw [hl1] at this ⊢; exact this, HW1.out⟩⟩
  case round =>
   clear HAL HW1 HBW HFN1 HK1 hl1 l
   obtain ⟨k, hk, rfl, hkk, hb, hst⟩ := hrel
   have HK := Lib.hid hkk
   have HB := Lib.hid hb
   have hfn := (hkk.block _ (blk_lt HFN.out) (by omega)).trans HFN.out
   have HFR := Lib.hid hfn
   have y0 := blk_cell hfn 0
   have y1 := blk_cell hfn 1
   have y2 := blk_cell hfn 2
   have y3 := blk_cell hfn 3
   simp only [List.getElem?_toArray, List.getElem?_cons_succ, List.getElem?_cons_zero] at y0 y1 y2 y3
   clear hkk hb hfn
   rcases hst with ⟨l, hal, hw⟩ | ⟨hno, l, ez, hz, hw⟩
   ·have HAL := Lib.hid hal
    have HWK := Lib.hid hw
    have c2 := blk_cell hw 3
    simp only [List.getElem?_toArray, List.getElem?_cons_succ, List.getElem?_cons_zero] at c2
    clear hal hw
    by_cases hlt : k < f.f3.length
    ·obtain ⟨cd, A5, c5, A6, c6, hCd, x0, x1, x2, x3, x4, x5, x6, _, h5, _, h6⟩ := at_T79 HCD.out (k : Int) (by omega) (by omega)
     obtain ⟨x, hx0⟩ : ∃ x, x = f.f3.getD k zI := ⟨_, rfl⟩
     have hxr : rd_T79 f.f3 (k : Int) = x := by rw [rd_T79, Int.toNat_natCast]; exact hx0.symm
     rw [hxr] at x0 x1 x2 x3 x4 x5 x6 h5 h6
     rw [Int.toNat_natCast] at x0 x1 x2 x3 x4 x5 x6
     have hbw : Below w.heap.size w wr := HN.out ▸ HB.out
     replace x0 := below_cells hbw _ _ x0
     replace x1 := below_cells hbw _ _ x1
     replace x2 := below_cells hbw _ _ x2
     replace x3 := below_cells hbw _ _ x3
     replace x4 := below_cells hbw _ _ x4
     replace x5 := below_cells hbw _ _ x5
     replace x6 := below_cells hbw _ _ x6
     have hxm : x ∈ f.f3 := hx0 ▸ (by rw [List.getD_eq_getElem?_getD, List.getElem?_eq_getElem hlt]; exact List.getElem_mem _)
     have HXM := Lib.hid (HIN.out x hxm)
     have HX5 := Lib.hid h5
     have HX6 := Lib.hid h6
     have HXK := Lib.hid hx0
     subst hCd
     have HBW := Lib.hid hbw
     have hlast : ((k : Int) == (f.f3.length : Int) - 1) = decide (k + 1 = f.f3.length) := by
      by_cases h : k + 1 = f.f3.length
      ·rw [decide_eq_true h]; simp; omega
      ·rw [decide_eq_false h]; simp; omega
     obtain ⟨last, hla⟩ : ∃ last, last = decide (k + 1 = f.f3.length) := ⟨_, rfl⟩
     rw [← hla] at hlast
     have HLA := Lib.hid hla
     have hlr : 0 ≤ l ∧ l < 1048575 := by have := HAL.out.lo; have := HAL.out.hi; omega
     have hs1 : IntKind.i64.wrap ((f.f3.length : Int) - 1) = (f.f3.length : Int) - 1 := IntWalk.i64_in _ (by omega)
     clear h5 h6 hx0 hxr hxm hla hbw
     go_upto_region 9 with (fail)
     go_still_tail 13, (by kernel_rfl)
     change wpList _ _ _ _ _ wr.drew
     clear hs1
     go_wp2_with fail
     have HI := Lib.hid (instrR_any g G (some ad) c fs l f (some cd) fc x A5 c5 A6 c6 last w wr.drew HWK.out ⟨hlr.1, by omega⟩ (pw_below_drewN HBW.out 1) (by rw [HN.out]; omega) HC.out HX5.out HX6.out HXM.out.1 HXM.out.2)
     refine HI.out.mono ?_
     rintro r w3 ⟨rfl, hk3, hm⟩
     have HFN3 := Lib.hid ((hk3.block _ (blk_lt HFR.out) (by omega)).trans HFR.out)
     have HK3 := Lib.hid (HK.out.trans (Kept.trans (w1 := wr.drew) ((Kept.of_below (Below.refl _ _)).drewN 1) hk3))
     have HM := Lib.hid hm
     have HP3 := Lib.hid ((HK3.out.block _ (blk_lt HP2.out) (by omega)).trans HP2.out)
     have HB3 := Lib.hid (hk3.below (pw_below_drewN HB.out 1) (Nat.le_of_eq HN.out.symm) (by omega))
     have hbw3 : Below w.heap.size w w3 := HN.out ▸ HB3.out
     have HQI := Lib.hid (show instrQ G fs f l k = insQ G fs f l x last by rw [instrQ_is, ← HXK.out, ← HLA.out])
     clear hk3 hm y0 y1 y2 y3 x0 x1 x2 x3 x4 x5 x6 hlast HI
     have y3 := blk_cell HFN3.out 3
     simp only [List.getElem?_toArray, List.getElem?_cons_succ, List.getElem?_cons_zero] at y3
     have hbx : Below w.heap.size w w3 := hbw3
     obtain ⟨cd', _, _, _, _, hCd', x0, _, _, _, x4, _, _, _, _, _, _⟩ := at_T79 (Kd.C_below HCD.out hbx) (k : Int) (by omega) (by omega)
     injection hCd' with hCd'
     subst hCd'
     have hxr : rd_T79 f.f3 (k : Int) = x := by rw [rd_T79, Int.toNat_natCast]; exact HXK.out.symm
     rw [hxr, Int.toNat_natCast] at x0 x4
     clear hxr
     cases hq : insQ G fs f l x last with
     | error err =>
      have hm := HM.out
      rw [hq] at hm
      obtain ⟨l', hw⟩ := hm
      have hen := insQ_err_ne hq
      have c2 := blk_cell hw 3
      simp only [List.getElem?_toArray, List.getElem?_cons_succ, List.getElem?_cons_zero] at c2
      have hz0 : (err == 0) = false := by simpa using hen
      have HW4 := Lib.hid hw
      have HNO := Lib.hid (show ¬ FunOk G fs f from fun h => by
       have hi := (h.ins k hlt).asked (l := l) (fun _ => by omega)
       rw [← HXK.out, ← HLA.out, hq] at hi
       cases hi)
      have HEN := Lib.hid hen
      clear hw hen hq HM
      go_upto_region 10 with (fail)
      go_quiet (fail)
      go_wp2_with fail
      go_roundw
      case rel => exact ⟨k + 1, by omega, by go_num, HK3.out.drewN nq, pw_below_drewN HB3.out _, .inr ⟨HNO.out, l', err, HEN.out, HW4.out⟩⟩
      case measure => simp [intOf]; omega
     | ok l' =>
      have hm := HM.out
      rw [hq] at hm
      have c2 := blk_cell hm 3
      simp only [List.getElem?_toArray, List.getElem?_cons_succ, List.getElem?_cons_zero] at c2
      have HW4 := Lib.hid hm
      have HQQ := Lib.hid hq
      clear hm hq HM
      by_cases h11 : x.f0 = 11
      ·have b11 : (x.f0 == 11) = true := by simpa using h11
       have hcl : 0 ≤ x.f4 ∧ x.f4 < fs.length := by
        have h2 := (ins_of HQQ.out).ps 0 (by rw [h11]; decide)
        rw [h11] at h2
        exact of_decide_eq_true (need_ok (b := decide (0 ≤ x.f4 ∧ x.f4 < fs.length)) (e := 14) h2)
       obtain ⟨_, GA, gc, hAg, e0, e1, e2, e3, _, _⟩ := at_T66 (Kd.C_below HC.out hbx) x.f4 hcl.1 hcl.2
       injection hAg with hAg
       subst hAg
       obtain ⟨gf, hgf⟩ : ∃ gf, gf = fs.getD x.f4.toNat zF := ⟨_, rfl⟩
       have hgr : rd_T66 fs x.f4 = gf := hgf.symm
       rw [hgr] at e0 e1 e2 e3
       have hx40 := hcl.1
       have hx41 := hcl.2
       have p1 := blk_cell HP3.out 1
       simp only [List.getElem?_toArray, List.getElem?_cons_succ, List.getElem?_cons_zero] at p1
       have HGF := Lib.hid hgf
       have H11 := Lib.hid h11
       clear hgf hgr h11 hcl
       have q0 := e0
       have q1 := e1
       have q2 := e2
       have q3 := e3
       have q4 := c2
       have q5 := y3
       have q6 := x0
       have q7 := x4
       have q8 := p1
       obtain ⟨hb, hhb⟩ : ∃ hb, headB gf = hb := ⟨_, rfl⟩
       have HHB := Lib.hid hhb
       have HHO := Lib.hid (hhb ▸ headOne_any gf GA gf.f3.length gc w3.drew)
       clear hhb
       go_upto_region 10 with (fail)
       go_region_held3 (fun w' => w'.cell? (ad.add (x.f4.toNat * 4)) = some (.int .i64 gf.f0) ∧ w'.cell? ⟨(ad.add (x.f4.toNat * 4)).block, (ad.add (x.f4.toNat * 4)).off + 1, none⟩ = some (.int .i64 gf.f1) ∧ w'.cell? ⟨(ad.add (x.f4.toNat * 4)).block, (ad.add (x.f4.toNat * 4)).off + 2, none⟩ = some (.int .i64 gf.f2) ∧ w'.cell? ⟨(ad.add (x.f4.toNat * 4)).block, (ad.add (x.f4.toNat * 4)).off + 3, none⟩ = some (.slice GA gf.f3.length gc) ∧ w'.cell? ⟨g, 3, none⟩ = some (.int .i64 0) ∧ w'.cell? ⟨b2, 3, none⟩ = some (.slice (some cd) f.f3.length fc) ∧ w'.cell? (cd.add (k * 7)) = some (.int .i64 x.f0) ∧ w'.cell? ⟨(cd.add (k * 7)).block, (cd.add (k * 7)).off + 4, none⟩ = some (.int .i64 x.f4) ∧ w'.cell? ⟨N, 1, none⟩ = some (.slice (some ad) fs.length c))
        (first | (go_keep; done) | exact ⟨k0, k1, k2, k3, k4, k5, k6, k7, k8⟩)
        (first | (go_at_call 132; refine HHO.out.mono ?_; rintro e w4 ⟨rfl, hb4⟩; have k0 := below_cells hb4 _ _ q0; have k1 := below_cells hb4 _ _ q1; have k2 := below_cells hb4 _ _ q2; have k3 := below_cells hb4 _ _ q3; have k4 := below_cells hb4 _ _ q4; have k5 := below_cells hb4 _ _ q5; have k6 := below_cells hb4 _ _ q6; have k7 := below_cells hb4 _ _ q7; have k8 := below_cells hb4 _ _ q8; have HB4 := Lib.hid hb4; clear hb4))
       have hb34 : Below w3.heap.size w3 w4 := Below.trans (below_drew (Below.refl _ w3)) HB4.out
       have HW5 := Lib.hid (walk_below HW4.out hb34)
       have HK5 := Lib.hid (HK3.out.trans (Kept.of_below hb34))
       have HB5 := Lib.hid (HB3.out.trans (hb34.mono (by have := HB3.out.size; have := HN.out; omega)))
       rename_i hHeld
       clear hHeld hb34 k0 k1 k2 k3 k4 k5 k6 k7 k8 q0 q1 q2 q3 q4 q5 q6 q7 q8 e0 e1 e2 e3 c2 y3 x0 x4 p1 HB4 HHO
       cases hb with
       | true =>
        go_wp2_with fail
        go_roundw
        case rel => exact ⟨k + 1, by omega, by go_num, HK5.out, HB5.out, .inl ⟨l', HAL.out.step (by rw [← HXK.out, ← HLA.out]; exact HQQ.out) hlr.2 (fun _ => by rw [← HXK.out, ← HGF.out]; exact (headB_iff gf).1 HHB.out), HW5.out⟩⟩
        case measure => simp [intOf]; omega
       | false =>
        have HNO := Lib.hid (show ¬ FunOk G fs f from fun h => by
         have := (headB_iff gf).2 (by rw [HGF.out, HXK.out]; exact h.cal k hlt (HXK.out ▸ H11.out))
         rw [HHB.out] at this
         cases this)
        go_wp2_with fail
        go_ret
        exact ⟨false, rfl, ⟨fun h => (by cases h), fun h => absurd (HF.out ▸ h.2) HNO.out⟩, HN.out ▸ HB5.out⟩
      ·have b11 : (x.f0 == 11) = false := by simpa using h11
       have HN11 := Lib.hid h11
       clear h11
       go_upto_region 10 with (fail)
       go_quiet (fail)
       go_wp2_with fail
       go_roundw
       case rel => exact ⟨k + 1, by omega, by go_num, HK3.out.drewN nq, pw_below_drewN HB3.out _, .inl ⟨l', HAL.out.step (by rw [← HXK.out, ← HLA.out]; exact HQQ.out) hlr.2 (fun h => absurd (HXK.out ▸ h) HN11.out), HW4.out⟩⟩
       case measure => simp [intOf]; omega
    ·obtain rfl : k = f.f3.length := by omega
     have HOK := Lib.hid (HAL.out.done HG.out HH.out)
     go_wp2_with fail
     go_ret
     exact ⟨true, rfl, ⟨fun _ => ⟨⟨hf0, hf1⟩, HF.out ▸ HOK.out⟩, fun _ => rfl⟩, HN.out ▸ HB.out⟩
   ·have HNO := Lib.hid hno
    have HWK := Lib.hid hw
    have c2 := blk_cell hw 3
    simp only [List.getElem?_toArray, List.getElem?_cons_succ, List.getElem?_cons_zero] at c2
    have hz0 : (ez == 0) = false := by simpa using hz
    clear hno hw hz
    rcases hlb : decide (k < f.f3.length)
    all_goals
     go_wp2_with fail
     go_ret
     exact ⟨false, rfl, ⟨fun h => (by cases h), fun h => absurd (HF.out ▸ h.2) HNO.out⟩, HN.out ▸ HB.out⟩
 ·have hz0 : (ez == 0) = false := by simpa using hz
  have HNO := Lib.hid (show ¬ FunOk G fs f from fun h => hnH h.hd)
  have HW1 := Lib.hid hw
  clear hz hnH hw HST HQ
  obtain ⟨wo, rfl⟩ : ∃ wo : World, wo = w1 := ⟨_, rfl⟩
  go_loopw [7] (fun i wr => i = .int .i64 0 ∧ wr = wo) (fun _ _ => 0)
  case atStart => exact ⟨rfl, by trivial⟩
  case round =>
   obtain ⟨rfl, rfl⟩ := hrel
   have y3 := blk_cell HFN1.out 3
   have c2 := blk_cell HW1.out 3
   simp only [List.getElem?_toArray, List.getElem?_cons_succ, List.getElem?_cons_zero] at y3 c2
   rcases hlb : decide (0 < f.f3.length)
   all_goals
    go_wp2_with fail
    go_ret
    exact ⟨false, rfl, ⟨fun h => (by cases h), fun h => absurd (HF.out ▸ h.2) HNO.out⟩, HN.out ▸ HBW.out⟩
def Good (G : Int) (fs : List Fun) (sums : List Smm) (fi : Int) : Prop := ((0 ≤ fi ∧ fi < fs.length) ∧ FunOk G fs (fs.getD fi.toNat zF)) ∧ sums.length = fs.length ∧ FitAll fs sums (fs.getD fi.toNat zF)
def edges7Post (G : Int) (fs : List Fun) (sums : List Smm) (fi : Int) (w : World) (e : Ending) (w' : World) : Prop :=
 (Good G fs sums fi ∧ ∃ v, e = .returned (.tuple #[v, .int .i64 0]) ∧ k144.R 144 w' w.heap.size (fun _ => True) v (allE (fs.getD fi.toNat zF) sums (1 + (fs.getD fi.toNat zF).f1 + (fs.getD fi.toNat zF).f2) (fs.getD fi.toNat zF).f3.length).1 ∧ Below w.heap.size w w') ∨
 (¬ Good G fs sums fi ∧ e = .returned (.tuple #[.slice none 0 0, .int .i64 1]) ∧ Below w.heap.size w w')
set_option maxRecDepth 100000 in
set_option maxHeartbeats 12800000 in
theorem edges7_any (G : Int) (A : Option Addr) (c : Nat) (fs : List Fun) (fi : Int) (SA : Option Addr) (sums : List Smm) (sl : Nat) (w : World) (hC : k66.C w A fs.length fs) (hS : k34.C w SA sums.length sums) (hlen : fs.length ≤ 2147483647)
  (hcode : ∀ f ∈ fs, f.f3.length ≤ 2147483646 ∧ ∀ x ∈ f.f3, x.f5.length ≤ 2147483647 ∧ x.f6.length ≤ 2147483647) (hsl : sums.length ≤ 2147483647) (hsm : ∀ s ∈ sums, s.f0.length ≤ 2147483646 ∧ ∀ r ∈ s.f1, r.length ≤ 2147483647) :
  Calls Tryz.prog 47 #[.agg #[.int .i64 G, .slice A fs.length c], .int .i64 fi, .slice SA sums.length sl] w (edges7Post G fs sums fi w) := by
 have HC := Lib.hid hC
 have HS := Lib.hid hS
 have HCODE := Lib.hid hcode
 have HSM := Lib.hid hsm
 clear hC hS hcode hsm
 go_enter Tryz.func47, Tryz.ntmps47
 go_upto_region 1 with (fail)
 have hb0 := below1 w (.cells #[.int .i64 G, .slice A fs.length c] 24)
 have hn0 := alloc_new w (.cells #[.int .i64 G, .slice A fs.length c] 24)
 obtain ⟨N, hN⟩ : ∃ N, w.heap.size = N := ⟨_, rfl⟩
 have HN := Lib.hid hN
 rw [hN] at hb0 hn0 ⊢
 clear hN
 generalize World.alloc _ _ = W at hb0 hn0 ⊢
 have HB := Lib.hid hb0
 have HP := Lib.hid hn0
 clear hb0 hn0
 have p0 := blk_cell HP.out 0
 have p1 := blk_cell HP.out 1
 simp only [List.getElem?_toArray, List.getElem?_cons_succ, List.getElem?_cons_zero] at p0 p1
 have HAL := Lib.hid (alone_any G A c fs fi W (Kd.C_below HC.out (HN.out ▸ HB.out)) hlen HCODE.out)
 go_wp2_with fail
 refine HAL.out.mono ?_
 rintro e W1 ⟨b, rfl, hiff, hb⟩
 have HIF := Lib.hid hiff
 have HP1 := Lib.hid ((hb.block _ (blk_lt HP.out)).trans HP.out)
 have HB1 := Lib.hid (HB.out.trans (hb.mono (by have := blk_lt HP.out; omega)))
 clear hb hiff p0 p1 HAL HP HB
 have p1 := blk_cell HP1.out 1
 simp only [List.getElem?_toArray, List.getElem?_cons_succ, List.getElem?_cons_zero] at p1
 cases b with
 | false =>
  have HR := Lib.hid (show ¬ Good G fs sums fi from fun h => by have := HIF.out.2 h.1; cases this)
  go_wp2_with fail
  go_ret2
  exact .inr ⟨HR.out, rfl, HN.out ▸ HB1.out⟩
 | true =>
  by_cases hlq : sums.length = fs.length
  ·have HFO := Lib.hid (HIF.out.1 rfl)
   obtain ⟨⟨hf0, hf1⟩, _⟩ := HFO.out
   have bne : ((sums.length : Int) != (fs.length : Int)) = false := by rw [hlq]; simp
   have HLQ := Lib.hid hlq
   clear hlq HIF
   go_upto_region 4 with (fail)
   clear bne
   obtain ⟨ad, FA, fc, hA, e0, e1, e2, e3, hfc, hC3⟩ := at_T66 (Kd.C_below HC.out (HN.out ▸ HB1.out)) fi hf0 hf1
   obtain ⟨_, FA', fc', hA', _, _, _, g3, _, hC0⟩ := at_T66 HC.out fi hf0 hf1
   obtain ⟨f, hf⟩ : ∃ f, f = fs.getD fi.toNat zF := ⟨_, rfl⟩
   have hf' : rd_T66 fs fi = f := hf.symm
   rw [hf'] at e0 e1 e2 e3 hfc hC3 g3 hC0
   have HF := Lib.hid hf
   have HFN : Hid (FunOk G fs f) := Lib.hid (by rw [hf]; exact HFO.out.2)
   have HCD : Hid (k79.C w FA f.f3.length f.f3) := Lib.hid (by
    rw [hA] at hA'
    injection hA' with hA'
    subst hA'
    have hq := (below_cells (HN.out ▸ HB1.out) _ _ g3).symm.trans e3
    injection hq with hq
    obtain ⟨q0, _, _⟩ := Value.slice.inj hq
    subst q0
    exact hC0)
   have HPO : Hid (∀ e w', ((FitAll fs sums f ∧ ∃ v, e = Ending.returned (.tuple #[v, .int .i64 0]) ∧ k144.R 144 w' N (fun _ => True) v (allE f sums (1 + f.f1 + f.f2) f.f3.length).1 ∧ Below N w w') ∨ (¬ FitAll fs sums f ∧ e = .returned (.tuple #[.slice none 0 0, .int .i64 1]) ∧ Below N w w')) → edges7Post G fs sums fi w e w') := Lib.hid (by
    intro e w' h
    unfold edges7Post
    rw [← hf, HN.out]
    rcases h with ⟨h1, h2⟩ | ⟨h1, h2⟩
    ·exact .inl ⟨⟨⟨⟨hf0, hf1⟩, hf ▸ HFN.out⟩, HLQ.out, hf ▸ h1⟩, h2⟩
    ·exact .inr ⟨fun hg => h1 (hf ▸ hg.2.2), h2⟩)
   subst hA
   clear hf hf' hC3 hA' g3 hC0
   go_upto_region 5 with (fail)
   have hb2 := below1 W1 (.cells #[.int .i64 f.f0, .int .i64 f.f1, .int .i64 f.f2, .slice FA f.f3.length fc] 66)
   have hn2 := alloc_new W1 (.cells #[.int .i64 f.f0, .int .i64 f.f1, .int .i64 f.f2, .slice FA f.f3.length fc] 66)
   have HP2 := Lib.hid ((hb2.block _ (blk_lt HP1.out)).trans HP1.out)
   obtain ⟨b2, hbb⟩ : ∃ b2, W1.heap.size = b2 := ⟨_, rfl⟩
   have hNb : N < b2 := hbb ▸ blk_lt HP1.out
   have HB2 := Lib.hid (HB1.out.trans (hb2.mono (by omega)))
   rw [hbb] at hn2 ⊢
   clear hb2 hbb p1 HP1 HB1 e0 e1 e2 e3
   generalize World.alloc _ _ = W2 at hn2 HP2 HB2 ⊢
   have HFN2 := Lib.hid hn2
   clear hn2
   have hn4 : f.f3.length ≤ 4096 := by have := HFN.out.hd.n1; omega
   go_wp2_with fail
   go_loopw [11] (fun i wr => ∃ k : Nat, k ≤ f.f3.length ∧ i = .int .i64 k ∧ (∀ m, m < k → (f.f3.getD m zI).f0 = 11 → fitsB (fs.getD (f.f3.getD m zI).f4.toNat zF) (sums.getD (f.f3.getD m zI).f4.toNat zS) = true) ∧ Below W2.heap.size W2 wr) (fun i _ => f.f3.length - (intOf i).toNat)
   case atStart => exact ⟨0, by omega, rfl, fun m hm => absurd hm (by omega), Below.refl _ _⟩
   case round =>
    obtain ⟨k, hk, rfl, hfit, hb⟩ := hrel
    have HFT := Lib.hid hfit
    have HBR := Lib.hid hb
    have hP3 := (hb.block _ (blk_lt HP2.out)).trans HP2.out
    have hF3 := (hb.block _ (blk_lt HFN2.out)).trans HFN2.out
    have p1 := blk_cell hP3 1
    have y3 := blk_cell hF3 3
    simp only [List.getElem?_toArray, List.getElem?_cons_succ, List.getElem?_cons_zero] at p1 y3
    have hbw : Below w.heap.size w wr := by rw [HN.out]; exact HB2.out.trans (hb.mono (by have := blk_lt HP2.out; omega))
    have HBW := Lib.hid hbw
    clear hfit hb hP3 hF3
    by_cases hlt : k < f.f3.length
    ·obtain ⟨cd, A5, c5, A6, c6, hCd, x0, _, _, _, x4, _, _, _, _, _, _⟩ := at_T79 (Kd.C_below HCD.out hbw) (k : Int) (by omega) (by omega)
     obtain ⟨x, hx0⟩ : ∃ x, x = f.f3.getD k zI := ⟨_, rfl⟩
     have hxr : rd_T79 f.f3 (k : Int) = x := by rw [rd_T79, Int.toNat_natCast]; exact hx0.symm
     rw [hxr, Int.toNat_natCast] at x0 x4
     have HXK := Lib.hid hx0
     subst hCd
     clear hx0 hxr
     by_cases h11 : x.f0 = 11
     ·have b11 : (x.f0 == 11) = true := by simpa using h11
      have hcl := HFN.out.into k hlt (by rw [← HXK.out]; exact h11)
      rw [← HXK.out] at hcl
      have hcs : x.f4 < sums.length := by have := HLQ.out; omega
      obtain ⟨_, GA, gc, hAg, e0, e1, e2, e3, _, _⟩ := at_T66 (Kd.C_below HC.out hbw) x.f4 hcl.1 hcl.2
      injection hAg with hAg
      subst hAg
      obtain ⟨sd, S0, l0, S1, l1, hSd, g0, g1, _, hS0, _, hS1⟩ := at_T34 (Kd.C_below HS.out hbw) x.f4 hcl.1 hcs
      obtain ⟨gf, hgf⟩ : ∃ gf, gf = fs.getD x.f4.toNat zF := ⟨_, rfl⟩
      obtain ⟨gs, hgs⟩ : ∃ gs, gs = sums.getD x.f4.toNat zS := ⟨_, rfl⟩
      have hgr : rd_T66 fs x.f4 = gf := hgf.symm
      have hgs' : rd_T34 sums x.f4 = gs := hgs.symm
      rw [hgr] at e0 e1 e2 e3
      rw [hgs'] at g0 g1 hS0 hS1
      have hsz := HSM.out gs (hgs ▸ (by rw [List.getD_eq_getElem?_getD, List.getElem?_eq_getElem (show x.f4.toNat < sums.length by omega)]; exact List.getElem_mem _))
      have HR7 := Lib.hid (right7_any gf.f0 gf.f1 gf.f2 GA gf.f3.length gc S0 l0 gs.f0 S1 l1 gs.f1 wr.drew hS0 hS1 hsz.1 hsz.2)
      have HGE := Lib.hid (show fitsB (fs.getD x.f4.toNat zF) (sums.getD x.f4.toNat zS) = fitsB gf gs by rw [hgf, hgs])
      have hx40 := hcl.1
      have hx41 := hcl.2
      have H11 := Lib.hid h11
      subst hSd
      clear hgf hgs hgr hgs' hsz hS0 hS1 hcl h11
      have v0 := e0
      have v1 := e1
      have v2 := e2
      have v3 := e3
      have v4 := y3
      have v5 := x0
      have v6 := x4
      have v7 := p1
      have v8 := g0
      have v9 := g1
      go_upto_region 9 with (fail)
      go_region_held3 (fun w' => w'.cell? (ad.add (x.f4.toNat * 4)) = some (.int .i64 gf.f0) ∧ w'.cell? ⟨(ad.add (x.f4.toNat * 4)).block, (ad.add (x.f4.toNat * 4)).off + 1, none⟩ = some (.int .i64 gf.f1) ∧ w'.cell? ⟨(ad.add (x.f4.toNat * 4)).block, (ad.add (x.f4.toNat * 4)).off + 2, none⟩ = some (.int .i64 gf.f2) ∧ w'.cell? ⟨(ad.add (x.f4.toNat * 4)).block, (ad.add (x.f4.toNat * 4)).off + 3, none⟩ = some (.slice GA gf.f3.length gc) ∧ w'.cell? ⟨b2, 3, none⟩ = some (.slice (some cd) f.f3.length fc) ∧ w'.cell? (cd.add (k * 7)) = some (.int .i64 x.f0) ∧ w'.cell? ⟨(cd.add (k * 7)).block, (cd.add (k * 7)).off + 4, none⟩ = some (.int .i64 x.f4) ∧ w'.cell? ⟨N, 1, none⟩ = some (.slice (some ad) fs.length c) ∧ w'.cell? (sd.add (x.f4.toNat * 2)) = some (.slice S0 gs.f0.length l0) ∧ w'.cell? ⟨(sd.add (x.f4.toNat * 2)).block, (sd.add (x.f4.toNat * 2)).off + 1, none⟩ = some (.slice S1 gs.f1.length l1))
       (first | (go_keep; done) | exact ⟨k0, k1, k2, k3, k4, k5, k6, k7, k8, k9⟩)
       (first | (go_at_call 101; refine HR7.out.mono ?_; rintro e w5 ⟨rb, rfl, hrb, hb5⟩; have k0 := below_cells hb5 _ _ v0; have k1 := below_cells hb5 _ _ v1; have k2 := below_cells hb5 _ _ v2; have k3 := below_cells hb5 _ _ v3; have k4 := below_cells hb5 _ _ v4; have k5 := below_cells hb5 _ _ v5; have k6 := below_cells hb5 _ _ v6; have k7 := below_cells hb5 _ _ v7; have k8 := below_cells hb5 _ _ v8; have k9 := below_cells hb5 _ _ v9; have HB5 := Lib.hid hb5; have HRB := Lib.hid hrb; clear hb5 hrb))
      rename_i hHeld
      clear hHeld k0 k1 k2 k3 k4 k5 k6 k7 k8 k9 v0 v1 v2 v3 v4 v5 v6 v7 v8 v9 e0 e1 e2 e3 y3 x0 x4 p1 g0 g1 HR7
      have hb35 : Below wr.heap.size wr w5 := Below.trans (below_drew (Below.refl _ wr)) HB5.out
      have HB6 := Lib.hid (HBR.out.trans (hb35.mono HBR.out.size))
      clear hb35 HB5
      cases rb with
      | true =>
       have HFB := Lib.hid (HGE.out.trans ((fitP_iff gf gs).1 (HRB.out.1 rfl)))
       go_wp2_with fail
       go_roundw
       case rel =>
        refine ⟨k + 1, by omega, by go_num, fun m hm h11 => ?_, HB6.out⟩
        by_cases hmk : m = k
        ·subst hmk; rw [← HXK.out]; exact HFB.out
        ·exact HFT.out m (by omega) h11
       case measure => simp [intOf]; omega
      | false =>
       have HNF := Lib.hid (show ¬ FitAll fs sums f from fun h => by
        have h2 := h x (HXK.out ▸ (by rw [List.getD_eq_getElem?_getD, List.getElem?_eq_getElem hlt]; exact List.getElem_mem _)) H11.out
        rw [HGE.out] at h2
        have := HRB.out.2 ((fitP_iff gf gs).2 h2)
        cases this)
       go_wp2_with fail
       go_ret2
       exact HPO.out _ _ (.inr ⟨HNF.out, rfl, HB2.out.trans (HB6.out.mono (by have := blk_lt HP2.out; omega))⟩)
     ·have b11 : (x.f0 == 11) = false := by simpa using h11
      have HN11 := Lib.hid h11
      clear h11
      go_upto_region 9 with (fail)
      go_quiet (fail)
      go_wp2_with fail
      go_roundw
      case rel =>
       refine ⟨k + 1, by omega, by go_num, fun m hm h11 => ?_, pw_below_drewN HBR.out _⟩
       by_cases hmk : m = k
       ·subst hmk; exact absurd (HXK.out ▸ h11) HN11.out
       ·exact HFT.out m (by omega) h11
      case measure => simp [intOf]; omega
    ·obtain rfl : k = f.f3.length := by omega
     have HFA := Lib.hid (show FitAll fs sums f from fun x hx h11 => by
      obtain ⟨m, hm, rfl⟩ := List.getElem_of_mem hx
      have := HFT.out m hm
      rw [List.getD_eq_getElem?_getD, List.getElem?_eq_getElem hm] at this
      exact this h11)
     have HTE := Lib.hid (show ∀ m, m < f.f3.length → Tellable G fs sums f (f.f3.getD m zI) from fun m hm => by
      have hI := HFN.out.ins m hm
      have hcl := HFN.out.cal m hm
      have hx : f.f3.getD m zI ∈ f.f3 := by rw [List.getD_eq_getElem?_getD, List.getElem?_eq_getElem hm]; exact List.getElem_mem _
      exact ⟨⟨_, hI⟩, insOk_of2 hI HFN.out.hd hcl HLQ.out (HFA.out _ hx), HFA.out _ hx⟩)
     have HF4 := Lib.hid ((HBR.out.block _ (blk_lt HFN2.out)).trans HFN2.out)
     have HB4 := Lib.hid (HB2.out.trans (HBR.out.mono (by have := blk_lt HP2.out; omega)))
     clear hlt hk p1 hbw HBW HFT HBR
     go_wp2_with fail
     obtain ⟨wo, rfl⟩ : ∃ wo : World, wo = wr := ⟨_, rfl⟩
     go_loopw [10, 12] (fun v i wr => ∃ k : Nat, k ≤ f.f3.length ∧ i = .int .i64 k ∧ k144.R 144 wr N (fun _ => True) v (allE f sums (1 + f.f1 + f.f2) k).1 ∧ wr.heap[b2]? = some (.cells #[.int .i64 f.f0, .int .i64 f.f1, .int .i64 f.f2, .slice FA f.f3.length fc] 66 (0, 0)) ∧ Below N w wr) (fun _ i _ => f.f3.length - (intOf i).toNat)
     case atStart => exact ⟨0, by omega, rfl, Kd.R_nil _ _ _ _ _, HF4.out, HB4.out⟩
     case round =>
      clear HF4 HB4
      obtain ⟨k, hk, rfl, hr, hf, hb⟩ := hrel
      have HR := Lib.hid hr
      have HFF := Lib.hid hf
      have HB := Lib.hid hb
      have y0 := blk_cell hf 0
      have y1 := blk_cell hf 1
      have y2 := blk_cell hf 2
      have y3 := blk_cell hf 3
      simp only [List.getElem?_toArray, List.getElem?_cons_succ, List.getElem?_cons_zero] at y0 y1 y2 y3
      clear hr hf hb
      by_cases hlt : k < f.f3.length
      ·have hTk := HTE.out k hlt
       have HI7 := Lib.hid (instr7_any G fs f k FA fc SA sums sl w wr (HN.out ▸ HB.out) HCD.out HS.out HFN.out.hd hlt _ rfl hTk)
       have HAE := Lib.hid (show (allE f sums (1 + f.f1 + f.f2) (k + 1)).1 = (allE f sums (1 + f.f1 + f.f2) k).1 ++ edgE f sums (1 + f.f1 + f.f2 + (newsTo f.f3 k : Int)) (f.f3.getD k zI) by rw [allE, allE_news])
       have hal := allE_length f sums (1 + f.f1 + f.f2) (fun x hx => by
        obtain ⟨m, hm, rfl⟩ := List.getElem_of_mem hx
        have := (HTE.out m hm).ok
        rwa [List.getD_eq_getElem?_getD, List.getElem?_eq_getElem hm] at this) (k + 1) (by omega)
       rw [HAE.out] at hal
       rw [List.length_append] at hal
       obtain ⟨L, hL⟩ : ∃ L, (allE f sums (1 + f.f1 + f.f2) k).1 = L := ⟨_, rfl⟩
       obtain ⟨E2, hE2⟩ : ∃ E2, edgE f sums (1 + f.f1 + f.f2 + (newsTo f.f3 k : Int)) (f.f3.getD k zI) = E2 := ⟨_, rfl⟩
       rw [hL, hE2] at HAE hal
       rw [hL] at HR
       rw [hE2] at HI7
       obtain ⟨Ar, cr, rfl⟩ := Kd.R_slice HR.out
       clear hTk hL hE2
       go_wp2_with fail
       refine HI7.out.mono ?_
       rintro e w5 ⟨vm, rfl, hrm, hb5⟩
       obtain ⟨Am, cm, rfl⟩ := Kd.R_slice hrm
       have HM := Lib.hid (Kd.R_new' (u := .slice Ar L.length cr) hrm (Kd.R_lt HR.out))
       have HR5 := Lib.hid (Kd.R_below HR.out hb5)
       have HF5 := Lib.hid ((hb5.block _ (blk_lt HFF.out)).trans HFF.out)
       have HB5 := Lib.hid (HB.out.trans (hb5.mono (by rw [← HN.out]; exact (HN.out ▸ HB.out.size))))
       obtain ⟨M0, hM0⟩ : ∃ M0, wr.heap.size = M0 := ⟨_, rfl⟩
       rw [hM0] at HM
       clear hrm hb5 HI7 HR HFF HB y0 y1 y2 y3 hM0
       go_wp2_with fail
       obtain ⟨wp, rfl⟩ : ∃ wp : World, wp = w5 := ⟨_, rfl⟩
       go_loopw [10, 14] (fun v i wr => ∃ q : Nat, q ≤ E2.length ∧ i = .int .i64 q ∧ k144.R 144 wr N (fun _ => True) v (L ++ E2.take q) ∧ k144.R 144 wr M0 (fun k => True ∧ some k ≠ v.ownBlock) (.slice Am E2.length cm) E2 ∧ wr.heap[b2]? = some (.cells #[.int .i64 f.f0, .int .i64 f.f1, .int .i64 f.f2, .slice FA f.f3.length fc] 66 (0, 0)) ∧ Below N w wr) (fun _ i _ => E2.length - (intOf i).toNat)
       case atStart => exact ⟨0, by omega, rfl, by rw [List.take_zero, List.append_nil]; exact HR5.out, HM.out, HF5.out, HB5.out⟩
       case round =>
        clear HR5 HM HF5 HB5
        obtain ⟨q, hq, rfl, hr, hm, hf, hb⟩ := hrel
        have HR := Lib.hid hr
        have HM := Lib.hid hm
        have HFF := Lib.hid hf
        have HB := Lib.hid hb
        clear hr hm hf hb
        have hpl : (L ++ E2.take q).length = L.length + q := by rw [List.length_append, List.length_take]; omega
        obtain ⟨Av, cv, hve⟩ := Kd.R_slice HR.out
        rw [hpl] at hve
        subst hve
        by_cases hlq : q < E2.length
        ·obtain ⟨gd, hG, e0, e1, e2⟩ := at_T144 (Kd.R_reads' HM.out).2.2 (q : Int) (by omega) (by omega)
         obtain ⟨e, he0⟩ : ∃ e, e = E2.getD q zE := ⟨_, rfl⟩
         have her : rd_T144 E2 (q : Int) = e := by rw [rd_T144, Int.toNat_natCast]; exact he0.symm
         rw [her, Int.toNat_natCast] at e0 e1 e2
         have HTK := Lib.hid (show L ++ E2.take (q + 1) = (L ++ E2.take q) ++ [e] by
          rw [List.take_succ_eq_append_getElem hlq, he0, List.getD_eq_getElem?_getD, List.getElem?_eq_getElem hlq, List.append_assoc]; rfl)
         subst hG
         clear he0 her
         go_wp2_with (first | (at_builtin; refine Kd.R_append k144 (w0 := w) (W := wr) N rfl (.tmp 87) (.tmp 92) 83 144 (.agg #[.int .i64 0, .int .i64 0, .int .i64 0]) 24 rfl Tryz.underlying83 info_edg rfl (by decide) (by decide) (.slice Av (L.length + q) cv) (L ++ E2.take q) e [.int .i64 e.f0, .int .i64 e.f1, .int .i64 e.f2] (fun _ => True) (fun _ => False) rfl rfl (k144_mkM _ _ _ e) (fun _ h => h.elim) (fun _ _ => trivial) HR.out HB.out (by rw [← HN.out]; exact (HN.out ▸ HB.out.size)) (by rw [hpl]; omega) ?_; intro u1 w6 hr6 hb6 hg6 hat6; have HM6 := Lib.hid (Kd.R_after HM.out hg6 hat6); have HF6 := Lib.hid ((hg6.block _ (blk_lt HFF.out) (Kd.R_ne HR.out HFF.out (by decide))).trans HFF.out); have HR6 := Lib.hid hr6; have HB6 := Lib.hid hb6; clear hr6 hb6 hg6 hat6))
         go_roundw
         case rel => exact ⟨q + 1, by omega, by go_num, by rw [HTK.out]; exact HR6.out, HM6.out, HF6.out, HB6.out⟩
         case measure => simp [intOf]; omega
        ·obtain rfl : q = E2.length := by omega
         have HTK := Lib.hid (show L ++ E2.take E2.length = (allE f sums (1 + f.f1 + f.f2) (k + 1)).1 by rw [List.take_length, HAE.out])
         clear hlq hq hpl
         go_wp2_with fail
         go_roundw
         case rel => exact ⟨k + 1, by omega, by go_num, by rw [← HTK.out]; exact HR.out, HFF.out, HB.out⟩
         case measure => simp [intOf]; omega
      ·obtain rfl : k = f.f3.length := by omega
       go_wp2_with fail
       go_ret2
       exact HPO.out _ _ (.inl ⟨HFA.out, _, rfl, HR.out, HB.out⟩)
  ·have bne : ((sums.length : Int) != (fs.length : Int)) = true := by simp; omega
   have HR := Lib.hid (show ¬ Good G fs sums fi from fun h => hlq h.2.1)
   go_wp2_with fail
   go_ret2
   exact .inr ⟨HR.out, rfl, HN.out ▸ HB1.out⟩
end Go.Proofs.YtcbcacbbnojdjaaGreatDoor
