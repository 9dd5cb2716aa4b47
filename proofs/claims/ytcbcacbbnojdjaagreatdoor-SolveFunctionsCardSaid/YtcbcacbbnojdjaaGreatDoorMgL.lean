/-
 Part L of what the law's proof needs: walks of the program's functions and the plain laws of what they tell. No condition.
-/
import Derived.Test.YtcbcacbbnojdjaaGreatDoorMgK
import Derived.RangeFuncNested
import Derived.RangeFuncBound
import Derived.RangeFuncCalls
import Derived.RangeFuncLeaves
import Derived.Shelf.Abstract
import Derived.Shelf.RegionOpen
import Derived.OwnWalkIn
import Derived.TacticsInMore
import Derived.LoopNIn
import Derived.LoopIn
import Derived.RangeFuncKeeps
import Derived.RangeFuncBox
namespace Go.Proofs.YtcbcacbbnojdjaaGreatDoor
open Go.RowKit Go.Maps Go.Proofs.YtcbcacbbnojdjaaGreatDoorW.PrintWords Go.Proofs.YtcbcacbbnojdjaaGreatDoorW.PrintLast Go.Proofs.YtcbcacbbnojdjaaGreatDoor.PSolveFunctions
set_option linter.unusedVariables false
set_option linter.unusedSimpArgs false
abbrev Smm := S34
abbrev zS : Smm := z34
def SceneAt (W : World) (sc : Nat) (f : Fun) (FA : Option Addr) (fc : Nat) (SA : Option Addr) (sn sl : Nat) (next : Int) : Prop :=
 W.heap[sc]? = some (.cells #[.int .i64 f.f0, .int .i64 f.f1, .int .i64 f.f2, .slice FA f.f3.length fc, .slice SA sn sl, .int .i64 next] 139 (0, 0))
def atE (f : Fun) (v : Int) : Int := 1 + f.f1 + v
theorem at_any (sc : Nat) (f : Fun) (FA : Option Addr) (fc : Nat) (SA : Option Addr) (sn sl : Nat) (next v : Int) (W : World) (h : SceneAt W sc f FA fc SA sn sl next) (h1 : 0 ≤ f.f1 ∧ f.f1 ≤ 4) (h2 : 0 ≤ v ∧ v < 256) :
  Calls Tryz.prog 163 #[.pointer (some ⟨sc, 0, none⟩), .int .i64 v] W fun e w' => e = .returned (.int .i64 (atE f v)) ∧ W = w' := by
 have c1 := blk_cell h 1
 simp only [List.getElem?_toArray, List.getElem?_cons_succ, List.getElem?_cons_zero] at c1
 have HA := Lib.hid (show atE f v = 1 + f.f1 + v from rfl)
 generalize f.f1 = r at h1 c1 HA
 go_enter Tryz.func163, Tryz.ntmps163
 go_wp2_with fail
 go_ret
 exact ⟨by rw [HA.out]; rfl, rfl⟩
def Stay (W W' : World) : Prop := ∀ (k : Nat) (c : Array Value) (t : TypeId), W.heap[k]? = some (.cells c t (0, 0)) → t ≠ 83 → t ≠ 144 → W'.heap[k]? = some (.cells c t (0, 0))
structure Takes (sc n0 bx N : Nat) (T : List Edg → World → Prop) : Prop where
 lt : sc < n0
 keep : ∀ pre W W', Kept sc W W' → T pre W → T pre W'
 call : ∀ pre (e : Edg) W, T pre W → pre.length < N → Calls Tryz.prog 126 #[.int .i64 e.f0, .int .i64 e.f1, .int .i64 e.f2, .pointer (some ⟨bx, 0, none⟩)] W fun r W' => r = .returned (.bool true) ∧ T (pre ++ [e]) W' ∧ Below n0 W W' ∧ Stay W W'
def taker (bx : Nat) : Value := .func (.func 126) #[] #[.pointer (some ⟨bx, 0, none⟩)]
def retE (f : Fun) (l : List Int) : List Edg := (List.range l.length).map fun j : Nat => ⟨1 + (j : Int), atE f (l.getD j 0), 0⟩
theorem retE_length (f : Fun) (l : List Int) : (retE f l).length = l.length := by simp [retE]
theorem retE_take (f : Fun) (l : List Int) {j : Nat} (hj : j < l.length) : (retE f l).take (j + 1) = (retE f l).take j ++ [⟨1 + (j : Int), atE f (l.getD j 0), 0⟩] := by
 rw [List.take_succ_eq_append_getElem (by rw [retE_length]; exact hj)]
 simp [retE]
def toldPost (W : World) (sc n0 base : Nat) (f : Fun) (FA : Option Addr) (fc : Nat) (SA : Option Addr) (sn sl : Nat) (T : List Edg → World → Prop) (pre : List Edg) (next : Int) (r : Ending) (W' : World) : Prop :=
 r = .returned (.bool true) ∧ T pre W' ∧ SceneAt W' sc f FA fc SA sn sl next ∧ Below base W W' ∧ W.heap.size ≤ W'.heap.size
set_option maxRecDepth 100000 in
set_option maxHeartbeats 3200000 in
theorem returned_any (sc n0 bx N base : Nat) (T : List Edg → World → Prop) (HT : Takes sc n0 bx N T) (hbs : base ≤ sc) (f : Fun) (FA : Option Addr) (fc : Nat) (SA : Option Addr) (sn sl : Nat) (next : Int) (pre : List Edg) (x : Ins) (A5 : Option Addr) (c5 : Nat) (A6 : Option Addr) (c6 : Nat) (w0 W : World)
  (hB : Below base w0 W) (hb0 : base = w0.heap.size) (h5 : (Kd.int .i64).C w0 A5 x.f5.length x.f5)
  (hS : SceneAt W sc f FA fc SA sn sl next) (hT : T pre W) (h1 : 0 ≤ f.f1 ∧ f.f1 ≤ 4) (hx : ∀ v ∈ x.f5, 0 ≤ v ∧ v < 256) (hl : x.f5.length ≤ 255) (hN : pre.length + x.f5.length ≤ N) :
  Calls Tryz.prog 165 #[.pointer (some ⟨sc, 0, none⟩), .agg #[.int .i64 x.f0, .int .i64 x.f1, .int .i64 x.f2, .int .i64 x.f3, .int .i64 x.f4, .slice A5 x.f5.length c5, .slice A6 x.f6.length c6], taker bx] W (toldPost W sc n0 base f FA fc SA sn sl T (pre ++ retE f x.f5) next) := by
 subst hb0
 have HB := Lib.hid hB
 have H5 := Lib.hid h5
 have HS := Lib.hid hS
 have HTT := Lib.hid hT
 have HX := Lib.hid hx
 have hlt := HT.lt
 have HK := Lib.hid HT
 clear hB h5 hS hT hx HT
 unfold taker
 go_enter Tryz.func165, Tryz.ntmps165
 go_upto_region 1 with (fail)
 have hb1 := below1 W (.cells #[.int .i64 x.f0, .int .i64 x.f1, .int .i64 x.f2, .int .i64 x.f3, .int .i64 x.f4, .slice A5 x.f5.length c5, .slice A6 x.f6.length c6] 79)
 have hnw := alloc_new W (.cells #[.int .i64 x.f0, .int .i64 x.f1, .int .i64 x.f2, .int .i64 x.f3, .int .i64 x.f4, .slice A5 x.f5.length c5, .slice A6 x.f6.length c6] 79)
 have HS1 := Lib.hid (show SceneAt (W.alloc (.cells #[.int .i64 x.f0, .int .i64 x.f1, .int .i64 x.f2, .int .i64 x.f3, .int .i64 x.f4, .slice A5 x.f5.length c5, .slice A6 x.f6.length c6] 79)) sc f FA fc SA sn sl next from (hb1.block _ (blk_lt HS.out)).trans HS.out)
 have HT1 := Lib.hid (HK.out.keep _ _ _ (Kept.of_below hb1) HTT.out)
 have HB1 := Lib.hid (hb1.mono (Nat.le_trans hbs (Nat.le_of_lt (blk_lt HS.out))))
 have hsz := hb1.size
 generalize World.alloc _ _ = W1 at hnw HS1 HT1 HB1 hsz ⊢
 have z5 := blk_cell hnw 5
 simp only [List.getElem?_toArray, List.getElem?_cons_succ, List.getElem?_cons_zero] at z5
 clear hnw hb1
 go_wp2_with fail
 clear z5
 go_loopw [12] (fun i wr => ∃ j : Nat, j ≤ x.f5.length ∧ i = .int .i64 j ∧ T (pre ++ (retE f x.f5).take j) wr ∧ SceneAt wr sc f FA fc SA sn sl next ∧ Below w0.heap.size W wr ∧ W.heap.size ≤ wr.heap.size) (fun i _ => x.f5.length - (intOf i).toNat)
 case atStart => exact ⟨0, by omega, rfl, by simpa using HT1.out, HS1.out, HB1.out, hsz⟩
 case round =>
  clear HT1 HS1 HB1 hsz
  obtain ⟨j, hj, rfl, ht, hs, hb, hz⟩ := hrel
  have HTr := Lib.hid ht
  have HSr := Lib.hid hs
  have HBr := Lib.hid hb
  clear ht hs hb
  by_cases hlt5 : j < x.f5.length
  ·obtain ⟨ad, hAd, hv⟩ := Kd.at_int (Kd.C_below H5.out (HB.out.trans HBr.out)) (j : Int) (by omega) (by omega)
   obtain ⟨v, hv0⟩ : ∃ v, v = x.f5.getD j 0 := ⟨_, rfl⟩
   have hv1 : rd x.f5 (j : Int) = v := hv0.symm
   rw [hv1, Int.toNat_natCast] at hv
   have hvr := HX.out v (hv0 ▸ (by rw [List.getD_eq_getElem?_getD, List.getElem?_eq_getElem hlt5]; exact List.getElem_mem _))
   have htk := retE_take f x.f5 hlt5
   rw [← hv0] at htk
   have HTK := Lib.hid htk
   have hpl : (pre ++ (retE f x.f5).take j).length < N := by rw [List.length_append, List.length_take, retE_length]; omega
   subst hAd
   clear hv0 hv1 htk
   go_wp2_with fail
   refine (at_any sc f FA fc SA sn sl next v wr HSr.out h1 hvr).mono ?_
   rintro r w2 ⟨rfl, rfl⟩
   obtain ⟨a, ha⟩ : ∃ a, a = atE f v := ⟨_, rfl⟩
   rw [← ha]
   rw [← ha] at HTK
   clear ha
   go_wp2_with fail
   refine (HK.out.call _ ⟨1 + (j : Int), a, 0⟩ wr HTr.out hpl).mono ?_
   rintro r w2 ⟨rfl, ht, hb, hst⟩
   have HT2 := Lib.hid ht
   have HS2 := Lib.hid (hst _ _ _ HSr.out (by decide) (by decide))
   have HB2 := Lib.hid (HBr.out.trans (hb.mono (Nat.le_trans hbs (Nat.le_of_lt hlt))))
   have hz2 := hb.size
   clear ht hb hst hv
   go_wp2_with fail
   go_roundw
   case rel => exact ⟨j + 1, by omega, by go_num, by rw [HTK.out, ← List.append_assoc]; exact HT2.out, HS2.out, HB2.out, Nat.le_trans hz hz2⟩
   case measure => simp [intOf]; omega
  ·obtain rfl : j = x.f5.length := by omega
   have ht := HTr.out
   rw [List.take_of_length_le (by rw [retE_length]; exact Nat.le_refl _)] at ht
   have HT2 := Lib.hid ht
   clear ht HTr
   go_wp2_with fail
   go_ret
   exact ⟨rfl, HT2.out, HSr.out, HBr.out, hz⟩
def oneE (dst src d : Int) : List Edg := if d = 9 then [] else [⟨dst, src, d⟩]
def resE (f : Fun) (rets : List Int) (row : List Int) (a : Int) : Nat → List Edg
 | 0 => []
 | m + 1 => resE f rets row a m ++ oneE (atE f (rets.getD m 0)) a (row.getD m 0)
def callE (f : Fun) (x : Ins) (s : Smm) : Nat → List Edg
 | 0 => []
 | m + 1 => callE f x s m ++ (oneE 0 (atE f (x.f5.getD m 0)) (s.f0.getD m 0) ++ resE f x.f6 (s.f1.getD m []) (atE f (x.f5.getD m 0)) x.f6.length)
theorem oneE_length (d s w : Int) : (oneE d s w).length ≤ 1 := by unfold oneE; split <;> simp
theorem resE_length (f : Fun) (rets row : List Int) (a : Int) : ∀ m, (resE f rets row a m).length ≤ m
 | 0 => Nat.le_refl _
 | m + 1 => by
  have h1 := resE_length f rets row a m
  have h2 := oneE_length (atE f (rets.getD m 0)) a (row.getD m 0)
  rw [resE, List.length_append]
  omega
theorem callE_length (f : Fun) (x : Ins) (s : Smm) : ∀ m, (callE f x s m).length ≤ m * (x.f6.length + 1)
 | 0 => by simp [callE]
 | m + 1 => by
  have h1 := callE_length f x s m
  have h2 := oneE_length 0 (atE f (x.f5.getD m 0)) (s.f0.getD m 0)
  have h3 := resE_length f x.f6 (s.f1.getD m []) (atE f (x.f5.getD m 0)) x.f6.length
  rw [callE, List.length_append, List.length_append, Nat.succ_mul]
  omega
set_option maxRecDepth 100000 in
set_option maxHeartbeats 6400000 in
theorem called_any (sc n0 bx N base : Nat) (T : List Edg → World → Prop) (HT : Takes sc n0 bx N T) (hbs : base ≤ sc) (f : Fun) (FA : Option Addr) (fc : Nat) (SA : Option Addr) (sums : List Smm) (sl : Nat) (next : Int) (pre : List Edg) (x : Ins) (A5 : Option Addr) (c5 : Nat) (A6 : Option Addr) (c6 : Nat) (w0 W : World)
  (hB : Below base w0 W) (hb0 : base = w0.heap.size) (h5 : (Kd.int .i64).C w0 A5 x.f5.length x.f5) (h6 : (Kd.int .i64).C w0 A6 x.f6.length x.f6) (hsm : k34.C w0 SA sums.length sums)
  (hS : SceneAt W sc f FA fc SA sums.length sl next) (hT : T pre W) (h1 : 0 ≤ f.f1 ∧ f.f1 ≤ 4) (hx : ∀ v ∈ x.f5, 0 ≤ v ∧ v < 256) (hy : ∀ v ∈ x.f6, 0 ≤ v ∧ v < 256) (hl : x.f5.length ≤ 8) (hl6 : x.f6.length ≤ 4)
  (s : Smm) (h4 : 0 ≤ x.f4 ∧ x.f4 < sums.length) (hs0 : s = sums.getD x.f4.toNat zS) (hs1 : s.f0.length = x.f5.length) (hs2 : s.f1.length = x.f5.length) (hs3 : ∀ r ∈ s.f1, r.length = x.f6.length)
  (hN : pre.length + 40 ≤ N) :
  Calls Tryz.prog 164 #[.pointer (some ⟨sc, 0, none⟩), .agg #[.int .i64 x.f0, .int .i64 x.f1, .int .i64 x.f2, .int .i64 x.f3, .int .i64 x.f4, .slice A5 x.f5.length c5, .slice A6 x.f6.length c6], taker bx] W (toldPost W sc n0 base f FA fc SA sums.length sl T (pre ++ callE f x s x.f5.length) next) := by
 subst hb0
 have HB := Lib.hid hB
 have H5 := Lib.hid h5
 have H6 := Lib.hid h6
 have HS := Lib.hid hS
 have HTT := Lib.hid hT
 have HX := Lib.hid hx
 have HY := Lib.hid hy
 have hlt := HT.lt
 have HK := Lib.hid HT
 have HS3 := Lib.hid hs3
 obtain ⟨sd, SA0, sc0, SA1, sc1, hSA, e0, e1, _, hsC0, _, hsC1⟩ := at_T34 (Kd.C_below hsm hB) x.f4 h4.1 h4.2
 obtain ⟨_, SB0, k0, SB1, k1, hSB, g0, g1, _, hsD0, _, hsD1⟩ := at_T34 hsm x.f4 h4.1 h4.2
 rw [hSA] at hSB
 injection hSB with hSB
 subst hSB
 have hsr : rd_T34 sums x.f4 = s := hs0.symm
 rw [hsr] at e0 e1 g0 g1 hsD0 hsD1
 rw [below_cells hB _ _ g0] at e0
 rw [below_cells hB _ _ g1] at e1
 obtain ⟨q0, _, q1⟩ := Value.slice.inj (Option.some.inj e0)
 obtain ⟨q2, _, q3⟩ := Value.slice.inj (Option.some.inj e1)
 subst q0 q1 q2 q3
 replace e0 := below_cells hB _ _ g0
 replace e1 := below_cells hB _ _ g1
 have HD0 := Lib.hid hsD0
 have HD1 := Lib.hid hsD1
 rw [hs1] at e0
 rw [hs2] at e1
 have HL0 := Lib.hid hs1
 have HL1 := Lib.hid hs2
 clear hB h5 h6 hS hT hx hy HT hs3 hsC0 hsC1 hsD0 hsD1 g0 g1 hsr hs0 hsm hs1 hs2
 unfold taker
 go_enter Tryz.func164, Tryz.ntmps164
 go_upto_region 1 with (fail)
 have hb1 := below1 W (.cells #[.int .i64 x.f0, .int .i64 x.f1, .int .i64 x.f2, .int .i64 x.f3, .int .i64 x.f4, .slice A5 x.f5.length c5, .slice A6 x.f6.length c6] 79)
 have hnw := alloc_new W (.cells #[.int .i64 x.f0, .int .i64 x.f1, .int .i64 x.f2, .int .i64 x.f3, .int .i64 x.f4, .slice A5 x.f5.length c5, .slice A6 x.f6.length c6] 79)
 have HS1 := Lib.hid (show SceneAt (W.alloc (.cells #[.int .i64 x.f0, .int .i64 x.f1, .int .i64 x.f2, .int .i64 x.f3, .int .i64 x.f4, .slice A5 x.f5.length c5, .slice A6 x.f6.length c6] 79)) sc f FA fc SA sums.length sl next from (hb1.block _ (blk_lt HS.out)).trans HS.out)
 have HT1 := Lib.hid (HK.out.keep _ _ _ (Kept.of_below hb1) HTT.out)
 have HB1 := Lib.hid (hb1.mono (Nat.le_trans hbs (Nat.le_of_lt (blk_lt HS.out))))
 have hsz := hb1.size
 replace e0 := below_cells hb1 _ _ e0
 replace e1 := below_cells hb1 _ _ e1
 obtain ⟨xb, hxb⟩ : ∃ xb, W.heap.size = xb := ⟨_, rfl⟩
 have hxs : sc < xb := hxb ▸ blk_lt HS.out
 rw [hxb] at hnw hsz ⊢
 have HXB := Lib.hid hxb
 generalize World.alloc _ _ = W1 at hnw HS1 HT1 HB1 hsz e0 e1 ⊢
 have z4 := blk_cell hnw 4
 have s4 := blk_cell HS1.out 4
 simp only [List.getElem?_toArray, List.getElem?_cons_succ, List.getElem?_cons_zero] at z4 s4
 have HNW := Lib.hid hnw
 clear hnw hb1 hxb
 subst hSA
 have n1 : xb < W1.heap.size := World.block_lt_of_cell? W1 _ z4
 have n2 : sc < W1.heap.size := World.block_lt_of_cell? W1 _ s4
 have n3 : (sd.add (x.f4.toNat * 2)).block < W1.heap.size := World.block_lt_of_cell? W1 _ e0
 go_region
 have hb2 := below1 W1 (.cells #[.slice SB0 x.f5.length k0, .slice SB1 x.f5.length k1] 34)
 have hsb := alloc_new W1 (.cells #[.slice SB0 x.f5.length k0, .slice SB1 x.f5.length k1] 34)
 obtain ⟨sb, hsb0⟩ : ∃ sb, W1.heap.size = sb := ⟨_, rfl⟩
 have HS2 := Lib.hid (show SceneAt (W1.alloc (.cells #[.slice SB0 x.f5.length k0, .slice SB1 x.f5.length k1] 34)).drew sc f FA fc (some sd) sums.length sl next from (hb2.block _ (blk_lt HS1.out)).trans HS1.out)
 have HT2 := Lib.hid (HK.out.keep _ _ (W1.alloc (.cells #[.slice SB0 x.f5.length k0, .slice SB1 x.f5.length k1] 34)).drew ((Kept.of_below hb2).drewN 1) HT1.out)
 have HB2 := Lib.hid (show Below w0.heap.size W (W1.alloc (.cells #[.slice SB0 x.f5.length k0, .slice SB1 x.f5.length k1] 34)).drew from below_drew (HB1.out.trans (hb2.mono (Nat.le_trans hbs (Nat.le_of_lt (blk_lt HS1.out))))))
 have hz2 : W.heap.size ≤ (W1.alloc (.cells #[.slice SB0 x.f5.length k0, .slice SB1 x.f5.length k1] 34)).drew.heap.size := Nat.le_trans (Nat.le_trans (by rw [HXB.out]; omega) hsz) hb2.size
 have HX2 := Lib.hid (show (W1.alloc (.cells #[.slice SB0 x.f5.length k0, .slice SB1 x.f5.length k1] 34)).drew.heap[xb]? = _ from (hb2.block _ (blk_lt HNW.out)).trans HNW.out)
 have HSB := Lib.hid (show (W1.alloc (.cells #[.slice SB0 x.f5.length k0, .slice SB1 x.f5.length k1] 34)).drew.heap[sb]? = _ from hsb0 ▸ hsb)
 rw [hsb0]
 generalize (World.alloc _ _).drew = W2 at HS2 HT2 HB2 hz2 HX2 HSB ⊢
 clear z4 s4 e0 e1 n1 n2 n3 hb2 hsb hsb0 HS1 HT1 HB1 HNW hsz
 have z5 := blk_cell HX2.out 5
 simp only [List.getElem?_toArray, List.getElem?_cons_succ, List.getElem?_cons_zero] at z5
 go_wp2_with fail
 clear z5
 go_loopw [25] (fun i wr => ∃ j : Nat, j ≤ x.f5.length ∧ i = .int .i64 j ∧ T (pre ++ callE f x s j) wr ∧ SceneAt wr sc f FA fc (some sd) sums.length sl next ∧ Below w0.heap.size W wr ∧ W.heap.size ≤ wr.heap.size ∧ wr.heap[xb]? = some (.cells #[.int .i64 x.f0, .int .i64 x.f1, .int .i64 x.f2, .int .i64 x.f3, .int .i64 x.f4, .slice A5 x.f5.length c5, .slice A6 x.f6.length c6] 79 (0, 0)) ∧ wr.heap[sb]? = some (.cells #[.slice SB0 x.f5.length k0, .slice SB1 x.f5.length k1] 34 (0, 0))) (fun i _ => x.f5.length - (intOf i).toNat)
 case atStart => exact ⟨0, by omega, rfl, by simpa [callE] using HT2.out, HS2.out, HB2.out, hz2, HX2.out, HSB.out⟩
 case round =>
  clear HT2 HS2 HB2 hz2 HX2 HSB
  obtain ⟨j, hj, rfl, ht, hs, hb, hz, hxb, hsb⟩ := hrel
  have HTr := Lib.hid ht
  have HSr := Lib.hid hs
  have HBr := Lib.hid hb
  have HXr := Lib.hid hxb
  have HBs := Lib.hid hsb
  clear ht hs hb hxb hsb
  by_cases hlt5 : j < x.f5.length
  ·obtain ⟨ad, hAd, hv⟩ := Kd.at_int (Kd.C_below H5.out (HB.out.trans HBr.out)) (j : Int) (by omega) (by omega)
   obtain ⟨v, hv0⟩ : ∃ v, v = x.f5.getD j 0 := ⟨_, rfl⟩
   have hv1 : rd x.f5 (j : Int) = v := hv0.symm
   rw [hv1, Int.toNat_natCast] at hv
   have hvr := HX.out v (hv0 ▸ (by rw [List.getD_eq_getElem?_getD, List.getElem?_eq_getElem hlt5]; exact List.getElem_mem _))
   obtain ⟨hd, hHd, hd1⟩ := Kd.at_int (Kd.C_below HD0.out (HB.out.trans HBr.out)) (j : Int) (by omega) (by rw [HL0.out]; omega)
   obtain ⟨d, hd0⟩ : ∃ d, d = s.f0.getD j 0 := ⟨_, rfl⟩
   have hd2 : rd s.f0 (j : Int) = d := hd0.symm
   rw [hd2, Int.toNat_natCast] at hd1
   have hlen := callE_length f x s j
   have hlen2 : j * (x.f6.length + 1) ≤ j * 5 := Nat.mul_le_mul_left _ (by omega)
   obtain ⟨a, ha⟩ : ∃ a, a = atE f v := ⟨_, rfl⟩
   have hcs : callE f x s (j + 1) = callE f x s j ++ (oneE 0 a d ++ resE f x.f6 (s.f1.getD j []) a x.f6.length) := by rw [callE, ← hv0, ← hd0, ha]
   have HCS := Lib.hid hcs
   have HAE := Lib.hid ha
   have hpl : (pre ++ callE f x s j).length < N := by rw [List.length_append]; omega
   have hpl2 : (pre ++ callE f x s j).length + 5 ≤ N := by rw [List.length_append]; omega
   subst hAd
   subst hHd
   have y0 := blk_cell HBs.out 0
   simp only [List.getElem?_toArray, List.getElem?_cons_succ, List.getElem?_cons_zero] at y0
   clear hv0 hv1 hd0 hd2 hcs hlen hlen2 ha
   by_cases hd9 : d = 9
   ·have b9 : (d != 9) = false := by simpa using hd9
    have HO := Lib.hid (show oneE 0 a d = [] from if_pos hd9)
    have y6 := blk_cell HXr.out 6
    simp only [List.getElem?_toArray, List.getElem?_cons_succ, List.getElem?_cons_zero] at y6
    clear hd9
    go_wp2_with fail
    have HTq := Lib.hid (show T (pre ++ callE f x s j ++ oneE 0 a d) wr by rw [HO.out, List.append_nil]; exact HTr.out)
    have HSq := HSr
    have HBq := HBr
    have HXq := HXr
    have HBq2 := HBs
    have hzq := hz
    clear y0 y6 hv hd1 b9 HO HTr HSr HBr HXr HBs hz
    obtain ⟨wo, rfl⟩ : ∃ wo : World, wo = wr := ⟨_, rfl⟩
    go_loopw [49] (fun i wq => ∃ m : Nat, m ≤ x.f6.length ∧ i = .int .i64 m ∧ T (pre ++ callE f x s j ++ oneE 0 a d ++ resE f x.f6 (s.f1.getD j []) a m) wq ∧ SceneAt wq sc f FA fc (some sd) sums.length sl next ∧ Below w0.heap.size W wq ∧ W.heap.size ≤ wq.heap.size ∧ wq.heap[xb]? = some (.cells #[.int .i64 x.f0, .int .i64 x.f1, .int .i64 x.f2, .int .i64 x.f3, .int .i64 x.f4, .slice (some ad) x.f5.length c5, .slice A6 x.f6.length c6] 79 (0, 0)) ∧ wq.heap[sb]? = some (.cells #[.slice (some hd) x.f5.length k0, .slice SB1 x.f5.length k1] 34 (0, 0))) (fun i _ => x.f6.length - (intOf i).toNat)
    case atStart => exact ⟨0, by omega, rfl, by simpa [resE] using HTq.out, HSq.out, HBq.out, hzq, HXq.out, HBq2.out⟩
    case round =>
     clear HTq HSq HBq hzq HXq HBq2
     obtain ⟨m, hm, rfl, ht, hs, hb, hz2, hxb, hsb⟩ := hrel
     have HTr := Lib.hid ht
     have HSr := Lib.hid hs
     have HBr := Lib.hid hb
     have HXr := Lib.hid hxb
     have HBs := Lib.hid hsb
     clear ht hs hb hxb hsb
     by_cases hlt6 : m < x.f6.length
     ·obtain ⟨rdd, hRd, hu⟩ := Kd.at_int (Kd.C_below H6.out (HB.out.trans HBr.out)) (m : Int) (by omega) (by omega)
      obtain ⟨u, hu0⟩ : ∃ u, u = x.f6.getD m 0 := ⟨_, rfl⟩
      have hu1 : rd x.f6 (m : Int) = u := hu0.symm
      rw [hu1, Int.toNat_natCast] at hu
      have hur := HY.out u (hu0 ▸ (by rw [List.getD_eq_getElem?_getD, List.getElem?_eq_getElem hlt6]; exact List.getElem_mem _))
      obtain ⟨row, hrow⟩ : ∃ row, row = s.f1.getD j [] := ⟨_, rfl⟩
      obtain ⟨ld, RA, rc, hLd, hr0, _, hrC⟩ := at_L1 (Kd.C_below HD1.out (HB.out.trans HBr.out)) (j : Int) (by omega) (by rw [HL1.out]; omega)
      have hr1 : rd_L1 s.f1 (j : Int) = row := hrow.symm
      rw [hr1] at hr0 hrC
      rw [Int.toNat_natCast] at hr0
      have hrl : row.length = x.f6.length := HS3.out row (hrow ▸ (by rw [List.getD_eq_getElem?_getD, List.getElem?_eq_getElem (by rw [HL1.out]; exact hlt5)]; exact List.getElem_mem _))
      obtain ⟨ed, hEd, hg⟩ := Kd.at_int hrC (m : Int) (by omega) (by rw [hrl]; omega)
      obtain ⟨g, hg0⟩ : ∃ g, g = row.getD m 0 := ⟨_, rfl⟩
      have hg1 : rd row (m : Int) = g := hg0.symm
      rw [hg1, Int.toNat_natCast] at hg
      have hres : resE f x.f6 (s.f1.getD j []) a (m + 1) = resE f x.f6 (s.f1.getD j []) a m ++ oneE (atE f u) a g := by rw [resE, ← hu0, ← hrow, ← hg0]
      have HRES := Lib.hid hres
      have hl1 := oneE_length 0 a d
      have hl2 := resE_length f x.f6 (s.f1.getD j []) a m
      have hpl3 : (pre ++ callE f x s j ++ oneE 0 a d ++ resE f x.f6 (s.f1.getD j []) a m).length < N := by rw [List.length_append, List.length_append]; omega
      subst hRd
      subst hLd
      subst hEd
      have y1 := blk_cell HBs.out 1
      simp only [List.getElem?_toArray, List.getElem?_cons_succ, List.getElem?_cons_zero] at y1
      rw [hrl] at hr0
      clear hu0 hu1 hrow hr1 hg0 hg1 hres hl1 hl2 hrC hrl
      by_cases hg9 : g = 9
      ·have b9 : (g != 9) = false := by simpa using hg9
       have HO := Lib.hid (show oneE (atE f u) a g = [] from if_pos hg9)
       clear hg9
       go_wp2_with fail
       clear y1 hu hr0 hg b9
       go_roundw
       case rel => exact ⟨m + 1, by omega, by go_num, by rw [HRES.out, HO.out, List.append_nil]; exact HTr.out, HSr.out, HBr.out, hz2, HXr.out, HBs.out⟩
       case measure => simp [intOf]; omega
      ·have b9 : (g != 9) = true := by simpa using hg9
       have HO := Lib.hid (show oneE (atE f u) a g = [⟨atE f u, a, g⟩] from if_neg hg9)
       clear hg9
       go_wp2_with fail
       refine (at_any sc f FA fc (some sd) sums.length sl next u wr HSr.out h1 hur).mono ?_
       rintro r w2 ⟨rfl, rfl⟩
       obtain ⟨au, hau⟩ : ∃ au, au = atE f u := ⟨_, rfl⟩
       rw [← hau] at HO HRES ⊢
       clear hau
       go_wp2_with fail
       refine (at_any sc f FA fc (some sd) sums.length sl next v wr HSr.out h1 hvr).mono ?_
       rintro r w2 ⟨rfl, rfl⟩
       rw [← HAE.out]
       go_wp2_with fail
       refine (HK.out.call _ ⟨au, a, g⟩ wr HTr.out hpl3).mono ?_
       rintro r w2 ⟨rfl, ht, hb, hst⟩
       have HT2 := Lib.hid ht
       have HS2 := Lib.hid (hst _ _ _ HSr.out (by decide) (by decide))
       have HX2 := Lib.hid (hst _ _ _ HXr.out (by decide) (by decide))
       have HBs2 := Lib.hid (hst _ _ _ HBs.out (by decide) (by decide))
       have HB2 := Lib.hid (HBr.out.trans (hb.mono (Nat.le_trans hbs (Nat.le_of_lt hlt))))
       have hz3 := hb.size
       clear ht hb hst y1 hu hr0 hg b9
       go_wp2_with fail
       go_roundw
       case rel => exact ⟨m + 1, by omega, by go_num, by rw [HRES.out, HO.out, ← List.append_assoc]; exact HT2.out, HS2.out, HB2.out, Nat.le_trans hz2 hz3, HX2.out, HBs2.out⟩
       case measure => simp [intOf]; omega
     ·obtain rfl : m = x.f6.length := by omega
      have ht := HTr.out
      rw [List.append_assoc, List.append_assoc, ← HCS.out] at ht
      have HT2 := Lib.hid ht
      clear ht HTr
      go_wp2_with fail
      go_roundw
      case rel => exact ⟨j + 1, by omega, by go_num, HT2.out, HSr.out, HBr.out, hz2, HXr.out, HBs.out⟩
      case measure => simp [intOf]; omega
   ·have b9 : (d != 9) = true := by simpa using hd9
    have HO := Lib.hid (show oneE 0 a d = [⟨0, a, d⟩] from if_neg hd9)
    clear hd9
    go_wp2_with fail
    refine (at_any sc f FA fc (some sd) sums.length sl next v wr HSr.out h1 hvr).mono ?_
    rintro r w2 ⟨rfl, rfl⟩
    rw [← HAE.out]
    go_wp2_with fail
    refine (HK.out.call _ ⟨0, a, d⟩ wr HTr.out hpl).mono ?_
    rintro r w2 ⟨rfl, ht, hb, hst⟩
    have HTq := Lib.hid (show T (pre ++ callE f x s j ++ oneE 0 a d) w2 by rw [HO.out]; exact ht)
    have HSq := Lib.hid (hst _ _ _ HSr.out (by decide) (by decide))
    have HXq := Lib.hid (hst _ _ _ HXr.out (by decide) (by decide))
    have HBq2 := Lib.hid (hst _ _ _ HBs.out (by decide) (by decide))
    have HBq := Lib.hid (HBr.out.trans (hb.mono (Nat.le_trans hbs (Nat.le_of_lt hlt))))
    have hzq := Nat.le_trans hz hb.size
    have y6 := blk_cell HXq.out 6
    simp only [List.getElem?_toArray, List.getElem?_cons_succ, List.getElem?_cons_zero] at y6
    clear ht hb hst y0 hv hd1 b9 HO HTr HSr HBr HXr HBs hz
    go_wp2_with fail
    clear y6
    go_loopw [49] (fun i wq => ∃ m : Nat, m ≤ x.f6.length ∧ i = .int .i64 m ∧ T (pre ++ callE f x s j ++ oneE 0 a d ++ resE f x.f6 (s.f1.getD j []) a m) wq ∧ SceneAt wq sc f FA fc (some sd) sums.length sl next ∧ Below w0.heap.size W wq ∧ W.heap.size ≤ wq.heap.size ∧ wq.heap[xb]? = some (.cells #[.int .i64 x.f0, .int .i64 x.f1, .int .i64 x.f2, .int .i64 x.f3, .int .i64 x.f4, .slice (some ad) x.f5.length c5, .slice A6 x.f6.length c6] 79 (0, 0)) ∧ wq.heap[sb]? = some (.cells #[.slice (some hd) x.f5.length k0, .slice SB1 x.f5.length k1] 34 (0, 0))) (fun i _ => x.f6.length - (intOf i).toNat)
    case atStart => exact ⟨0, by omega, rfl, by simpa [resE] using HTq.out, HSq.out, HBq.out, hzq, HXq.out, HBq2.out⟩
    case round =>
     clear HTq HSq HBq hzq HXq HBq2
     obtain ⟨m, hm, rfl, ht, hs, hb, hz2, hxb, hsb⟩ := hrel
     have HTr := Lib.hid ht
     have HSr := Lib.hid hs
     have HBr := Lib.hid hb
     have HXr := Lib.hid hxb
     have HBs := Lib.hid hsb
     clear ht hs hb hxb hsb
     by_cases hlt6 : m < x.f6.length
     ·obtain ⟨rdd, hRd, hu⟩ := Kd.at_int (Kd.C_below H6.out (HB.out.trans HBr.out)) (m : Int) (by omega) (by omega)
      obtain ⟨u, hu0⟩ : ∃ u, u = x.f6.getD m 0 := ⟨_, rfl⟩
      have hu1 : rd x.f6 (m : Int) = u := hu0.symm
      rw [hu1, Int.toNat_natCast] at hu
      have hur := HY.out u (hu0 ▸ (by rw [List.getD_eq_getElem?_getD, List.getElem?_eq_getElem hlt6]; exact List.getElem_mem _))
      obtain ⟨row, hrow⟩ : ∃ row, row = s.f1.getD j [] := ⟨_, rfl⟩
      obtain ⟨ld, RA, rc, hLd, hr0, _, hrC⟩ := at_L1 (Kd.C_below HD1.out (HB.out.trans HBr.out)) (j : Int) (by omega) (by rw [HL1.out]; omega)
      have hr1 : rd_L1 s.f1 (j : Int) = row := hrow.symm
      rw [hr1] at hr0 hrC
      rw [Int.toNat_natCast] at hr0
      have hrl : row.length = x.f6.length := HS3.out row (hrow ▸ (by rw [List.getD_eq_getElem?_getD, List.getElem?_eq_getElem (by rw [HL1.out]; exact hlt5)]; exact List.getElem_mem _))
      obtain ⟨ed, hEd, hg⟩ := Kd.at_int hrC (m : Int) (by omega) (by rw [hrl]; omega)
      obtain ⟨g, hg0⟩ : ∃ g, g = row.getD m 0 := ⟨_, rfl⟩
      have hg1 : rd row (m : Int) = g := hg0.symm
      rw [hg1, Int.toNat_natCast] at hg
      have hres : resE f x.f6 (s.f1.getD j []) a (m + 1) = resE f x.f6 (s.f1.getD j []) a m ++ oneE (atE f u) a g := by rw [resE, ← hu0, ← hrow, ← hg0]
      have HRES := Lib.hid hres
      have hl1 := oneE_length 0 a d
      have hl2 := resE_length f x.f6 (s.f1.getD j []) a m
      have hpl3 : (pre ++ callE f x s j ++ oneE 0 a d ++ resE f x.f6 (s.f1.getD j []) a m).length < N := by rw [List.length_append, List.length_append]; omega
      subst hRd
      subst hLd
      subst hEd
      have y1 := blk_cell HBs.out 1
      simp only [List.getElem?_toArray, List.getElem?_cons_succ, List.getElem?_cons_zero] at y1
      rw [hrl] at hr0
      clear hu0 hu1 hrow hr1 hg0 hg1 hres hl1 hl2 hrC hrl
      by_cases hg9 : g = 9
      ·have b9 : (g != 9) = false := by simpa using hg9
       have HO := Lib.hid (show oneE (atE f u) a g = [] from if_pos hg9)
       clear hg9
       go_wp2_with fail
       clear y1 hu hr0 hg b9
       go_roundw
       case rel => exact ⟨m + 1, by omega, by go_num, by rw [HRES.out, HO.out, List.append_nil]; exact HTr.out, HSr.out, HBr.out, hz2, HXr.out, HBs.out⟩
       case measure => simp [intOf]; omega
      ·have b9 : (g != 9) = true := by simpa using hg9
       have HO := Lib.hid (show oneE (atE f u) a g = [⟨atE f u, a, g⟩] from if_neg hg9)
       clear hg9
       go_wp2_with fail
       refine (at_any sc f FA fc (some sd) sums.length sl next u wr HSr.out h1 hur).mono ?_
       rintro r w2 ⟨rfl, rfl⟩
       obtain ⟨au, hau⟩ : ∃ au, au = atE f u := ⟨_, rfl⟩
       rw [← hau] at HO HRES ⊢
       clear hau
       go_wp2_with fail
       refine (at_any sc f FA fc (some sd) sums.length sl next v wr HSr.out h1 hvr).mono ?_
       rintro r w2 ⟨rfl, rfl⟩
       rw [← HAE.out]
       go_wp2_with fail
       refine (HK.out.call _ ⟨au, a, g⟩ wr HTr.out hpl3).mono ?_
       rintro r w2 ⟨rfl, ht, hb, hst⟩
       have HT2 := Lib.hid ht
       have HS2 := Lib.hid (hst _ _ _ HSr.out (by decide) (by decide))
       have HX2 := Lib.hid (hst _ _ _ HXr.out (by decide) (by decide))
       have HBs2 := Lib.hid (hst _ _ _ HBs.out (by decide) (by decide))
       have HB2 := Lib.hid (HBr.out.trans (hb.mono (Nat.le_trans hbs (Nat.le_of_lt hlt))))
       have hz3 := hb.size
       clear ht hb hst y1 hu hr0 hg b9
       go_wp2_with fail
       go_roundw
       case rel => exact ⟨m + 1, by omega, by go_num, by rw [HRES.out, HO.out, ← List.append_assoc]; exact HT2.out, HS2.out, HB2.out, Nat.le_trans hz2 hz3, HX2.out, HBs2.out⟩
       case measure => simp [intOf]; omega
     ·obtain rfl : m = x.f6.length := by omega
      have ht := HTr.out
      rw [List.append_assoc, List.append_assoc, ← HCS.out] at ht
      have HT2 := Lib.hid ht
      clear ht HTr
      go_wp2_with fail
      go_roundw
      case rel => exact ⟨j + 1, by omega, by go_num, HT2.out, HSr.out, HBr.out, hz2, HXr.out, HBs.out⟩
      case measure => simp [intOf]; omega
  ·obtain rfl : j = x.f5.length := by omega
   go_wp2_with fail
   go_ret
   exact ⟨rfl, HTr.out, HSr.out, HBr.out, hz⟩
def tellsOf : List (Int × Int) := [(0, 0), (0, 0), (1, 0), (0, 0), (0, 0), (1, -1), (3, -1), (1, 1), (2, 0), (0, 0), (2, 0), (4, 0), (0, 0), (0, 0), (0, 0), (5, 0), (0, 0), (0, 0)]
def TellsAt (W : World) : Prop := ∀ k : Nat, k < 18 → W.cell? ⟨0, k * 2, none⟩ = some (.int .i64 (tellsOf.getD k (0, 0)).1) ∧ W.cell? ⟨0, k * 2 + 1, none⟩ = some (.int .i64 (tellsOf.getD k (0, 0)).2)
noncomputable def toldT4 : Bool × List (List Nat × List Nat) := rtab .any (opsOf Tryz.f127 4)
theorem told_tab4 : rtab .any (opsOf Tryz.f127 4) = toldT4 := rfl
noncomputable def toldT9 : Bool × List (List Nat × List Nat) := rtab .any (opsOf Tryz.f127 9)
theorem told_tab9 : rtab .any (opsOf Tryz.f127 9) = toldT9 := rfl
set_option maxRecDepth 100000 in
set_option maxHeartbeats 3200000 in
theorem told_moved (sc n0 bx N base : Nat) (T : List Edg → World → Prop) (HT : Takes sc n0 bx N T) (hbs : base ≤ sc) (f : Fun) (FA : Option Addr) (fc : Nat) (SA : Option Addr) (sn sl : Nat) (next : Int) (pre : List Edg) (x : Ins) (A5 : Option Addr) (c5 : Nat) (A6 : Option Addr) (c6 : Nat) (W : World)
  (hS : SceneAt W sc f FA fc SA sn sl next) (hT : T pre W) (h1 : 0 ≤ f.f1 ∧ f.f1 ≤ 4) (hr : 0 ≤ x.f1 ∧ x.f1 < 256) (hs : 0 ≤ x.f2 ∧ x.f2 < 256) (hN : pre.length < N) (h0 : 0 ≤ x.f0 ∧ x.f0 < 18) (d : Int)
  (k0 : W.cell? ⟨0, x.f0.toNat * 2, none⟩ = some (.int .i64 1)) (k1 : W.cell? ⟨0, x.f0.toNat * 2 + 1, none⟩ = some (.int .i64 d)) :
  Calls Tryz.prog 127 #[.pointer (some ⟨sc, 0, none⟩), .agg #[.int .i64 x.f0, .int .i64 x.f1, .int .i64 x.f2, .int .i64 x.f3, .int .i64 x.f4, .slice A5 x.f5.length c5, .slice A6 x.f6.length c6], taker bx] W (toldPost W sc n0 base f FA fc SA sn sl T (pre ++ [⟨atE f x.f1, atE f x.f2, d⟩]) next) := by
 have HS := Lib.hid hS
 have HTT := Lib.hid hT
 have hlt := HT.lt
 have HK := Lib.hid HT
 clear hS hT HT
 unfold taker
 go_enter Tryz.func127, Tryz.ntmps127
 go_upto_region 1 with (fail)
 have hb1 := below1 W (.cells #[.int .i64 x.f0, .int .i64 x.f1, .int .i64 x.f2, .int .i64 x.f3, .int .i64 x.f4, .slice A5 x.f5.length c5, .slice A6 x.f6.length c6] 79)
 have hnw := alloc_new W (.cells #[.int .i64 x.f0, .int .i64 x.f1, .int .i64 x.f2, .int .i64 x.f3, .int .i64 x.f4, .slice A5 x.f5.length c5, .slice A6 x.f6.length c6] 79)
 replace k0 := below_cells hb1 _ _ k0
 replace k1 := below_cells hb1 _ _ k1
 have z0 := blk_cell hnw 0
 have z1 := blk_cell hnw 1
 have z2 := blk_cell hnw 2
 simp only [List.getElem?_toArray, List.getElem?_cons_succ, List.getElem?_cons_zero] at z0 z1 z2
 obtain ⟨xb, hxb⟩ : ∃ xb, W.heap.size = xb := ⟨_, rfl⟩
 have hxs : sc < xb := hxb ▸ blk_lt HS.out
 rw [hxb] at z0 z1 z2 hnw ⊢
 generalize World.alloc _ _ = W1 at k0 k1 z0 z1 z2 hnw hb1 ⊢
 go_upto_region 2 with (fail)
 have hb2 := below1 W1 (.cells #[.int .i64 1, .int .i64 d] 226)
 have hnt := alloc_new W1 (.cells #[.int .i64 1, .int .i64 d] 226)
 obtain ⟨tb, htb⟩ : ∃ tb, W1.heap.size = tb := ⟨_, rfl⟩
 have hb3 := hb1.trans (hb2.mono hb1.size)
 have HS2 := Lib.hid (show SceneAt (W1.alloc (.cells #[.int .i64 1, .int .i64 d] 226)) sc f FA fc SA sn sl next from (hb3.block _ (blk_lt HS.out)).trans HS.out)
 have HT2 := Lib.hid (HK.out.keep _ _ _ (Kept.of_below hb3) HTT.out)
 have HB2 := Lib.hid (hb3.mono (Nat.le_trans hbs (Nat.le_of_lt (blk_lt HS.out))))
 have hz2 := hb3.size
 replace z1 := below_cells hb2 _ _ z1
 replace z2 := below_cells hb2 _ _ z2
 have HNW := Lib.hid ((hb2.block _ (blk_lt hnw)).trans hnw)
 rw [htb] at hnt ⊢
 have d0 := blk_cell hnt 0
 have d1 := blk_cell hnt 1
 simp only [List.getElem?_toArray, List.getElem?_cons_succ, List.getElem?_cons_zero] at d0 d1
 have HNT := Lib.hid hnt
 clear hnt hnw hb1 hb2 hb3 htb hxb k0 k1 z0
 generalize World.alloc _ _ = W2 at z1 z2 d0 d1 HS2 HT2 HB2 hz2 HNW HNT ⊢
 go_wp2_with fail
 have HS3 := Lib.hid (show SceneAt W2.drew sc f FA fc SA sn sl next from HS2.out)
 have HT3 := Lib.hid (HK.out.keep _ _ W2.drew ((Kept.of_below (Below.refl _ _)).drewN 1) HT2.out)
 have HB3 := Lib.hid (below_drew HB2.out)
 have hz3 : W.heap.size ≤ W2.drew.heap.size := hz2
 refine start_ (n := 13) (S := fun w' => w'.cell? ⟨xb, 1, none⟩ = some (.int .i64 x.f1) ∧ w'.cell? ⟨xb, 2, none⟩ = some (.int .i64 x.f2) ∧ w'.cell? ⟨tb, 1, none⟩ = some (.int .i64 d)) (ds := [11]) #[false, false, false, false, false, false, false, false, false, false, false, false, false] (by kernel_rfl) rfl rfl ⟨z1, z2, d1⟩ (fun hHeld => ?_)
 refine with_tab told_tab4 (fun HT_ => ?_)
 clear HS2 HT2 HB2 hz2 z1 z2 d0 d1
 generalize W2.drew = W3 at HS3 HT3 HB3 hz3 hHeld ⊢
 refine pure_ (i := 0) (N := some 16) (v := ?_) (a' := ?_) #[true, false, false, false, false, false, false, false, false, false, false, false, false] rfl rfl (any_of HT_.out (by kernel_rfl)) (fun _ _ _ h => h) (Or.inl ⟨by rfl, ?_⟩) ?_ ?_
 rotate_left
 ·intro w'
  go_simp
  with_reducible rfl
 rotate_left
 ·simp only [Act.put, List.setIfInBounds_toArray, List.set_cons_zero, List.set_cons_succ, i64_w, i32_w]
  rfl
 refine pure_ (i := 1) (N := some 17) (v := ?_) (a' := ?_) #[true, true, false, false, false, false, false, false, false, false, false, false, false] rfl rfl (any_of HT_.out (by kernel_rfl)) (fun _ _ _ h => h) (Or.inl ⟨by rfl, ?_⟩) ?_ ?_
 rotate_left
 ·intro w'
  go_simp
  with_reducible rfl
 rotate_left
 ·simp only [Act.put, List.setIfInBounds_toArray, List.set_cons_zero, List.set_cons_succ, i64_w, i32_w]
  rfl
 refine pure_ (i := 2) (N := some 18) (v := ?_) (a' := ?_) #[true, true, true, false, false, false, false, false, false, false, false, false, false] rfl rfl (any_of HT_.out (by kernel_rfl)) (fun _ _ _ h => h) (Or.inl ⟨by rfl, ?_⟩) ?_ ?_
 rotate_left
 ·intro w'
  go_simp
  with_reducible rfl
 rotate_left
 ·simp only [Act.put, List.setIfInBounds_toArray, List.set_cons_zero, List.set_cons_succ, i64_w, i32_w]
  rfl
 refine pure_ (i := 5) (N := some 21) (v := ?_) (a' := ?_) #[true, true, true, false, false, true, false, false, false, false, false, false, false] rfl rfl (any_of HT_.out (by kernel_rfl)) (fun _ _ _ h => h) (Or.inl ⟨by rfl, ?_⟩) ?_ ?_
 rotate_left
 ·intro w'
  go_simp
  with_reducible rfl
 rotate_left
 ·simp only [Act.put, List.setIfInBounds_toArray, List.set_cons_zero, List.set_cons_succ, i64_w, i32_w]
  rfl
 refine pure_ (i := 6) (N := some 22) (v := ?_) (a' := ?_) #[true, true, true, false, false, true, true, false, false, false, false, false, false] rfl rfl (any_of HT_.out (by kernel_rfl)) (fun _ _ _ h => h) (Or.inl ⟨by rfl, ?_⟩) ?_ ?_
 rotate_left
 ·intro w'
  go_simp
  with_reducible rfl
 rotate_left
 ·simp only [Act.put, List.setIfInBounds_toArray, List.set_cons_zero, List.set_cons_succ, i64_w, i32_w]
  rfl
 refine pure_ (i := 9) (N := some 25) (v := ?_) (a' := ?_) #[true, true, true, false, false, true, true, false, false, true, false, false, false] rfl rfl (any_of HT_.out (by kernel_rfl)) (fun _ _ _ h => h) (Or.inl ⟨by rfl, ?_⟩) ?_ ?_
 rotate_left
 ·intro w'
  go_simp
  with_reducible rfl
 rotate_left
 ·simp only [Act.put, List.setIfInBounds_toArray, List.set_cons_zero, List.set_cons_succ, i64_w, i32_w]
  rfl
 refine take_ (i := 3) (N := some 19) (v := ?_) (a' := ?_) #[true, true, true, true, false, true, true, false, false, true, false, false, false] rfl rfl (take_of HT_.out (by kernel_rfl)) (fun _ _ _ h => h) (Or.inl ⟨by rfl, ?_⟩) hHeld ?_ ?_
 rotate_left
 ·rintro w' ⟨s0, s1, s2⟩
  go_simp
  with_reducible rfl
 rotate_left
 ·simp only [Act.put, List.setIfInBounds_toArray, List.set_cons_zero, List.set_cons_succ, i64_w, i32_w]
  rfl
 refine take_ (i := 7) (N := some 23) (v := ?_) (a' := ?_) #[true, true, true, true, false, true, true, true, false, true, false, false, false] rfl rfl (take_of HT_.out (by kernel_rfl)) (fun _ _ _ h => h) (Or.inl ⟨by rfl, ?_⟩) hHeld ?_ ?_
 rotate_left
 ·rintro w' ⟨s0, s1, s2⟩
  go_simp
  with_reducible rfl
 rotate_left
 ·simp only [Act.put, List.setIfInBounds_toArray, List.set_cons_zero, List.set_cons_succ, i64_w, i32_w]
  rfl
 refine take_ (i := 10) (N := some 26) (v := ?_) (a' := ?_) #[true, true, true, true, false, true, true, true, false, true, true, false, false] rfl rfl (take_of HT_.out (by kernel_rfl)) (fun _ _ _ h => h) (Or.inl ⟨by rfl, ?_⟩) hHeld ?_ ?_
 rotate_left
 ·rintro w' ⟨s0, s1, s2⟩
  go_simp
  with_reducible rfl
 rotate_left
 ·simp only [Act.put, List.setIfInBounds_toArray, List.set_cons_zero, List.set_cons_succ, i64_w, i32_w]
  rfl
 refine one_ (i := 4) (N := some 20) #[true, true, true, true, true, true, true, true, false, true, true, false, false] rfl rfl (one_of HT_.out (by kernel_rfl)) (by decide) (fun K hK => ?_)
 refine goes_ Tryz.func163 (by kernel_rfl) rfl #[.pointer (some ⟨sc, 0, none⟩), .int .i64 x.f1] (by rfl) rfl rfl (by simp only [List.map_toArray, List.map_cons, List.map_nil]; rfl) ?_
 refine (at_any sc f FA fc SA sn sl next x.f1 W3 HS3.out h1 hr).mono ?_
 rintro r w2 ⟨rfl, rfl⟩
 refine ⟨_, rfl, ?_⟩
 refine hK.out _ _ hHeld (fun hHeld => ?_)
 clear hK K
 refine norm_ (a' := ?_) ?_ ?_
 rotate_left
 ·show Act.put _ (some 20) _ = _
  simp only [Act.put, List.setIfInBounds_toArray, List.set_cons_zero, List.set_cons_succ, i64_w, i32_w]
  rfl
 refine one_ (i := 8) (N := some 24) #[true, true, true, true, true, true, true, true, true, true, true, false, false] rfl rfl (one_of HT_.out (by kernel_rfl)) (by decide) (fun K hK => ?_)
 refine goes_ Tryz.func163 (by kernel_rfl) rfl #[.pointer (some ⟨sc, 0, none⟩), .int .i64 x.f2] (by rfl) rfl rfl (by simp only [List.map_toArray, List.map_cons, List.map_nil]; rfl) ?_
 refine (at_any sc f FA fc SA sn sl next x.f2 W3 HS3.out h1 hs).mono ?_
 rintro r w2 ⟨rfl, rfl⟩
 refine ⟨_, rfl, ?_⟩
 refine hK.out _ _ hHeld (fun hHeld => ?_)
 clear hK K
 refine norm_ (a' := ?_) ?_ ?_
 rotate_left
 ·show Act.put _ (some 24) _ = _
  simp only [Act.put, List.setIfInBounds_toArray, List.set_cons_zero, List.set_cons_succ, i64_w, i32_w]
  rfl
 refine last_ (i := 11) (N := some 27) #[true, true, true, true, true, true, true, true, true, true, true, true, false] rfl rfl (one_of HT_.out (by kernel_rfl)) (by decide) (fun K hK => ?_)
 have he := enters_ Tryz.func126 (by kernel_rfl) rfl #[.int .i64 (atE f x.f1), .int .i64 (atE f x.f2), .int .i64 (d), .pointer (some ⟨bx, 0, none⟩)] W3
 refine call_ 126 #[.int .i64 (atE f x.f1), .int .i64 (atE f x.f2), .int .i64 (d), .pointer (some ⟨bx, 0, none⟩)] (by rfl) rfl (by unfold execOp; simp [resolve, Deferred.ofValue, invoke, Act.eval, he]) ?_
 refine (HK.out.call _ ⟨atE f x.f1, atE f x.f2, d⟩ W3 HT3.out hN).mono ?_
 rintro r w2 ⟨rfl, ht, hb, hst⟩
 refine ⟨_, rfl, ?_⟩
 refine hK.out _ _ ?_
 clear hK K
 refine norm_ (a' := ?_) ?_ ?_
 rotate_left
 ·show Act.put _ (some 27) _ = _
  simp only [Act.put, List.setIfInBounds_toArray, List.set_cons_zero, List.set_cons_succ, i64_w, i32_w]
  rfl
 refine pure_ (i := 12) (N := some 6) (v := ?_) (a' := ?_) #[true, true, true, true, true, true, true, true, true, true, true, true, true] rfl rfl (any_of HT_.out (by kernel_rfl)) (fun _ _ _ h => h) (Or.inl ⟨by rfl, ?_⟩) ?_ ?_
 rotate_left
 ·intro w'
  go_simp
  with_reducible rfl
 rotate_left
 ·simp only [Act.put, List.setIfInBounds_toArray, List.set_cons_zero, List.set_cons_succ, i64_w, i32_w]
  rfl
 refine done_ (done_of HT_.out (by kernel_rfl)) ?_
 have HT4 := Lib.hid ht
 have HS4 := Lib.hid (hst _ _ _ HS3.out (by decide) (by decide))
 have HB4 := Lib.hid (HB3.out.trans (hb.mono (Nat.le_trans hbs (Nat.le_of_lt hlt))))
 have hz4 := Nat.le_trans hz3 hb.size
 clear ht hb hst
 go_wp2_with fail
 go_ret
 exact ⟨rfl, HT4.out, HS4.out, HB4.out, hz4⟩
set_option maxRecDepth 100000 in
set_option maxHeartbeats 3200000 in
theorem told_made (sc n0 bx N base : Nat) (T : List Edg → World → Prop) (HT : Takes sc n0 bx N T) (hbs : base ≤ sc) (f : Fun) (FA : Option Addr) (fc : Nat) (SA : Option Addr) (sn sl : Nat) (next : Int) (pre : List Edg) (x : Ins) (A5 : Option Addr) (c5 : Nat) (A6 : Option Addr) (c6 : Nat) (W : World)
  (hS : SceneAt W sc f FA fc SA sn sl next) (hT : T pre W) (h1 : 0 ≤ f.f1 ∧ f.f1 ≤ 4) (hr : 0 ≤ x.f1 ∧ x.f1 < 256) (hn : 0 ≤ next ∧ next < 2097152) (hN : pre.length < N) (h0 : 0 ≤ x.f0 ∧ x.f0 < 18) (d : Int)
  (k0 : W.cell? ⟨0, x.f0.toNat * 2, none⟩ = some (.int .i64 3)) (k1 : W.cell? ⟨0, x.f0.toNat * 2 + 1, none⟩ = some (.int .i64 d)) :
  Calls Tryz.prog 127 #[.pointer (some ⟨sc, 0, none⟩), .agg #[.int .i64 x.f0, .int .i64 x.f1, .int .i64 x.f2, .int .i64 x.f3, .int .i64 x.f4, .slice A5 x.f5.length c5, .slice A6 x.f6.length c6], taker bx] W (toldPost W sc n0 base f FA fc SA sn sl T (pre ++ [⟨atE f x.f1, next, -1⟩]) (next + 1)) := by
 have HS := Lib.hid hS
 have HTT := Lib.hid hT
 have hlt := HT.lt
 have HK := Lib.hid HT
 clear hS hT HT
 unfold taker
 go_enter Tryz.func127, Tryz.ntmps127
 go_upto_region 1 with (fail)
 have hb1 := below1 W (.cells #[.int .i64 x.f0, .int .i64 x.f1, .int .i64 x.f2, .int .i64 x.f3, .int .i64 x.f4, .slice A5 x.f5.length c5, .slice A6 x.f6.length c6] 79)
 have hnw := alloc_new W (.cells #[.int .i64 x.f0, .int .i64 x.f1, .int .i64 x.f2, .int .i64 x.f3, .int .i64 x.f4, .slice A5 x.f5.length c5, .slice A6 x.f6.length c6] 79)
 replace k0 := below_cells hb1 _ _ k0
 replace k1 := below_cells hb1 _ _ k1
 have z0 := blk_cell hnw 0
 have z1 := blk_cell hnw 1
 have z2 := blk_cell hnw 2
 simp only [List.getElem?_toArray, List.getElem?_cons_succ, List.getElem?_cons_zero] at z0 z1 z2
 obtain ⟨xb, hxb⟩ : ∃ xb, W.heap.size = xb := ⟨_, rfl⟩
 have hxs : sc < xb := hxb ▸ blk_lt HS.out
 rw [hxb] at z0 z1 z2 hnw ⊢
 generalize World.alloc _ _ = W1 at k0 k1 z0 z1 z2 hnw hb1 ⊢
 go_upto_region 2 with (fail)
 have hb2 := below1 W1 (.cells #[.int .i64 3, .int .i64 d] 226)
 have hnt := alloc_new W1 (.cells #[.int .i64 3, .int .i64 d] 226)
 obtain ⟨tb, htb⟩ : ∃ tb, W1.heap.size = tb := ⟨_, rfl⟩
 have hb3 := hb1.trans (hb2.mono hb1.size)
 have HS2 := Lib.hid (show SceneAt (W1.alloc (.cells #[.int .i64 3, .int .i64 d] 226)) sc f FA fc SA sn sl next from (hb3.block _ (blk_lt HS.out)).trans HS.out)
 have HT2 := Lib.hid (HK.out.keep _ _ _ (Kept.of_below hb3) HTT.out)
 have HB2 := Lib.hid (hb3.mono (Nat.le_trans hbs (Nat.le_of_lt (blk_lt HS.out))))
 have hz2 := hb3.size
 replace z1 := below_cells hb2 _ _ z1
 replace z2 := below_cells hb2 _ _ z2
 have HNW := Lib.hid ((hb2.block _ (blk_lt hnw)).trans hnw)
 rw [htb] at hnt ⊢
 have d0 := blk_cell hnt 0
 have d1 := blk_cell hnt 1
 simp only [List.getElem?_toArray, List.getElem?_cons_succ, List.getElem?_cons_zero] at d0 d1
 have HNT := Lib.hid hnt
 clear hnt hnw hb1 hb2 hb3 htb hxb k0 k1 z0
 generalize World.alloc _ _ = W2 at z1 z2 d0 d1 HS2 HT2 HB2 hz2 HNW HNT ⊢
 have s5 := blk_cell HS2.out 5
 have zz := blk_frozen HS2.out 5
 simp only [List.getElem?_toArray, List.getElem?_cons_succ, List.getElem?_cons_zero] at s5
 have nx1 : ¬ xb = sc := by omega
 have nx2 : ¬ sc = xb := by omega
 go_wp2_with fail
 have hk4 := Kept.set (a := sc) W2 5 (.int .i64 (next + 1))
 have HS4 := Lib.hid (show SceneAt (W2.setCell ⟨sc, 5, none⟩ (.int .i64 (next + 1))) sc f FA fc SA sn sl (next + 1) from blk_put HS2.out 5 _ rfl)
 have HT4 := Lib.hid (HK.out.keep _ _ _ hk4 HT2.out)
 have HB4 := Lib.hid (HB2.out.setCell (p := ⟨sc, 5, none⟩) hbs (.int .i64 (next + 1)))
 have hz4 : W.heap.size ≤ (W2.setCell ⟨sc, 5, none⟩ (.int .i64 (next + 1))).heap.size := Nat.le_trans hz2 hk4.size
 have y1 : (W2.setCell ⟨sc, 5, none⟩ (.int .i64 (next + 1))).cell? ⟨xb, 1, none⟩ = some (.int .i64 x.f1) := hk4.cell z1 (by show xb ≠ sc; omega)
 clear HS2 HT2 HB2 hz2 z1 z2 d0 d1 s5 zz hk4
 generalize World.setCell _ _ _ = W2 at HS4 HT4 HB4 hz4 y1 ⊢
 have HS2 := HS4
 have HT2 := HT4
 have HB2 := HB4
 have hz2 := hz4
 have s5 := blk_cell HS2.out 5
 simp only [List.getElem?_toArray, List.getElem?_cons_succ, List.getElem?_cons_zero] at s5
 have hw1 : wrap64 next = next := by unfold wrap64; omega
 have HS3 := Lib.hid (show SceneAt W2.drew sc f FA fc SA sn sl (next + 1) from HS2.out)
 have HT3 := Lib.hid (HK.out.keep _ _ W2.drew ((Kept.of_below (Below.refl _ _)).drewN 1) HT2.out)
 have HB3 := Lib.hid (below_drew HB2.out)
 have hz3 : W.heap.size ≤ W2.drew.heap.size := hz2
 refine start_ (n := 12) (S := fun w' => w'.cell? ⟨xb, 1, none⟩ = some (.int .i64 x.f1) ∧ w'.cell? ⟨sc, 5, none⟩ = some (.int .i64 (next + 1))) (ds := [10]) #[false, false, false, false, false, false, false, false, false, false, false, false] (by kernel_rfl) rfl rfl ⟨y1, s5⟩ (fun hHeld => ?_)
 refine with_tab told_tab9 (fun HT_ => ?_)
 clear HS4 HT4 HB4 hz4 HS2 HT2 HB2 hz2 y1 s5
 generalize W2.drew = W3 at HS3 HT3 HB3 hz3 hHeld ⊢
 refine pure_ (i := 0) (N := some 45) (v := ?_) (a' := ?_) #[true, false, false, false, false, false, false, false, false, false, false, false] rfl rfl (any_of HT_.out (by kernel_rfl)) (fun _ _ _ h => h) (Or.inl ⟨by rfl, ?_⟩) ?_ ?_
 rotate_left
 ·intro w'
  go_simp
  with_reducible rfl
 rotate_left
 ·simp only [Act.put, List.setIfInBounds_toArray, List.set_cons_zero, List.set_cons_succ, i64_w, i32_w]
  rfl
 refine pure_ (i := 1) (N := some 46) (v := ?_) (a' := ?_) #[true, true, false, false, false, false, false, false, false, false, false, false] rfl rfl (any_of HT_.out (by kernel_rfl)) (fun _ _ _ h => h) (Or.inl ⟨by rfl, ?_⟩) ?_ ?_
 rotate_left
 ·intro w'
  go_simp
  with_reducible rfl
 rotate_left
 ·simp only [Act.put, List.setIfInBounds_toArray, List.set_cons_zero, List.set_cons_succ, i64_w, i32_w]
  rfl
 refine pure_ (i := 2) (N := some 47) (v := ?_) (a' := ?_) #[true, true, true, false, false, false, false, false, false, false, false, false] rfl rfl (any_of HT_.out (by kernel_rfl)) (fun _ _ _ h => h) (Or.inl ⟨by rfl, ?_⟩) ?_ ?_
 rotate_left
 ·intro w'
  go_simp
  with_reducible rfl
 rotate_left
 ·simp only [Act.put, List.setIfInBounds_toArray, List.set_cons_zero, List.set_cons_succ, i64_w, i32_w]
  rfl
 refine pure_ (i := 5) (N := some 50) (v := ?_) (a' := ?_) #[true, true, true, false, false, true, false, false, false, false, false, false] rfl rfl (any_of HT_.out (by kernel_rfl)) (fun _ _ _ h => h) (Or.inl ⟨by rfl, ?_⟩) ?_ ?_
 rotate_left
 ·intro w'
  go_simp
  with_reducible rfl
 rotate_left
 ·simp only [Act.put, List.setIfInBounds_toArray, List.set_cons_zero, List.set_cons_succ, i64_w, i32_w]
  rfl
 refine pure_ (i := 6) (N := some 51) (v := ?_) (a' := ?_) #[true, true, true, false, false, true, true, false, false, false, false, false] rfl rfl (any_of HT_.out (by kernel_rfl)) (fun _ _ _ h => h) (Or.inl ⟨by rfl, ?_⟩) ?_ ?_
 rotate_left
 ·intro w'
  go_simp
  with_reducible rfl
 rotate_left
 ·simp only [Act.put, List.setIfInBounds_toArray, List.set_cons_zero, List.set_cons_succ, i64_w, i32_w]
  rfl
 refine pure_ (i := 7) (N := some 52) (v := ?_) (a' := ?_) #[true, true, true, false, false, true, true, true, false, false, false, false] rfl rfl (any_of HT_.out (by kernel_rfl)) (fun _ _ _ h => h) (Or.inl ⟨by rfl, ?_⟩) ?_ ?_
 rotate_left
 ·intro w'
  go_simp
  with_reducible rfl
 rotate_left
 ·simp only [Act.put, List.setIfInBounds_toArray, List.set_cons_zero, List.set_cons_succ, i64_w, i32_w]
  rfl
 refine take_ (i := 3) (N := some 48) (v := ?_) (a' := ?_) #[true, true, true, true, false, true, true, true, false, false, false, false] rfl rfl (take_of HT_.out (by kernel_rfl)) (fun _ _ _ h => h) (Or.inl ⟨by rfl, ?_⟩) hHeld ?_ ?_
 rotate_left
 ·rintro w' ⟨s0, s1⟩
  go_simp
  with_reducible rfl
 rotate_left
 ·simp only [Act.put, List.setIfInBounds_toArray, List.set_cons_zero, List.set_cons_succ, i64_w, i32_w]
  rfl
 refine take_ (i := 8) (N := some 53) (v := ?_) (a' := ?_) #[true, true, true, true, false, true, true, true, true, false, false, false] rfl rfl (take_of HT_.out (by kernel_rfl)) (fun _ _ _ h => h) (Or.inl ⟨by rfl, ?_⟩) hHeld ?_ ?_
 rotate_left
 ·rintro w' ⟨s0, s1⟩
  go_simp
  with_reducible rfl
 rotate_left
 ·simp only [Act.put, List.setIfInBounds_toArray, List.set_cons_zero, List.set_cons_succ, i64_w, i32_w]
  rfl
 refine pure_ (i := 9) (N := some 54) (v := ?_) (a' := ?_) #[true, true, true, true, false, true, true, true, true, true, false, false] rfl rfl (any_of HT_.out (by kernel_rfl)) (fun _ _ _ h => h) (Or.inl ⟨by rfl, ?_⟩) ?_ ?_
 rotate_left
 ·intro w'
  go_simp
  with_reducible rfl
 rotate_left
 ·simp only [Act.put, List.setIfInBounds_toArray, List.set_cons_zero, List.set_cons_succ, i64_w, i32_w]
  rfl
 refine one_ (i := 4) (N := some 49) #[true, true, true, true, true, true, true, true, true, true, false, false] rfl rfl (one_of HT_.out (by kernel_rfl)) (by decide) (fun K hK => ?_)
 refine goes_ Tryz.func163 (by kernel_rfl) rfl #[.pointer (some ⟨sc, 0, none⟩), .int .i64 x.f1] (by rfl) rfl rfl (by simp only [List.map_toArray, List.map_cons, List.map_nil]; rfl) ?_
 refine (at_any sc f FA fc SA sn sl (next + 1) x.f1 W3 HS3.out h1 hr).mono ?_
 rintro r w2 ⟨rfl, rfl⟩
 refine ⟨_, rfl, ?_⟩
 refine hK.out _ _ hHeld (fun hHeld => ?_)
 clear hK K
 refine norm_ (a' := ?_) ?_ ?_
 rotate_left
 ·show Act.put _ (some 49) _ = _
  simp only [Act.put, List.setIfInBounds_toArray, List.set_cons_zero, List.set_cons_succ, i64_w, i32_w]
  rfl
 refine last_ (i := 10) (N := some 55) #[true, true, true, true, true, true, true, true, true, true, true, false] rfl rfl (one_of HT_.out (by kernel_rfl)) (by decide) (fun K hK => ?_)
 have he := enters_ Tryz.func126 (by kernel_rfl) rfl #[.int .i64 (atE f x.f1), .int .i64 (next), .int .i64 (-1), .pointer (some ⟨bx, 0, none⟩)] W3
 refine call_ 126 #[.int .i64 (atE f x.f1), .int .i64 (next), .int .i64 (-1), .pointer (some ⟨bx, 0, none⟩)] (by rfl) rfl (by unfold execOp; simp [resolve, Deferred.ofValue, invoke, Act.eval, he, hw1]) ?_
 refine (HK.out.call _ ⟨atE f x.f1, next, -1⟩ W3 HT3.out hN).mono ?_
 rintro r w2 ⟨rfl, ht, hb, hst⟩
 refine ⟨_, rfl, ?_⟩
 refine hK.out _ _ ?_
 clear hK K
 refine norm_ (a' := ?_) ?_ ?_
 rotate_left
 ·show Act.put _ (some 55) _ = _
  simp only [Act.put, List.setIfInBounds_toArray, List.set_cons_zero, List.set_cons_succ, i64_w, i32_w]
  rfl
 refine pure_ (i := 11) (N := some 6) (v := ?_) (a' := ?_) #[true, true, true, true, true, true, true, true, true, true, true, true] rfl rfl (any_of HT_.out (by kernel_rfl)) (fun _ _ _ h => h) (Or.inl ⟨by rfl, ?_⟩) ?_ ?_
 rotate_left
 ·intro w'
  go_simp
  with_reducible rfl
 rotate_left
 ·simp only [Act.put, List.setIfInBounds_toArray, List.set_cons_zero, List.set_cons_succ, i64_w, i32_w]
  rfl
 refine done_ (done_of HT_.out (by kernel_rfl)) ?_
 have HT4 := Lib.hid ht
 have HS4 := Lib.hid (hst _ _ _ HS3.out (by decide) (by decide))
 have HB4 := Lib.hid (HB3.out.trans (hb.mono (Nat.le_trans hbs (Nat.le_of_lt hlt))))
 have hz4 := Nat.le_trans hz3 hb.size
 clear ht hb hst
 go_wp2_with fail
 go_ret
 exact ⟨rfl, HT4.out, HS4.out, HB4.out, hz4⟩
set_option maxRecDepth 100000 in
set_option maxHeartbeats 3200000 in
theorem told_stored (sc n0 bx N base : Nat) (T : List Edg → World → Prop) (HT : Takes sc n0 bx N T) (hbs : base ≤ sc) (f : Fun) (FA : Option Addr) (fc : Nat) (SA : Option Addr) (sn sl : Nat) (next : Int) (pre : List Edg) (x : Ins) (A5 : Option Addr) (c5 : Nat) (A6 : Option Addr) (c6 : Nat) (W : World)
  (hS : SceneAt W sc f FA fc SA sn sl next) (hT : T pre W) (h1 : 0 ≤ f.f1 ∧ f.f1 ≤ 4) (hs : 0 ≤ x.f2 ∧ x.f2 < 256) (hN : pre.length < N) (h0 : 0 ≤ x.f0 ∧ x.f0 < 18) (d : Int)
  (k0 : W.cell? ⟨0, x.f0.toNat * 2, none⟩ = some (.int .i64 2)) (k1 : W.cell? ⟨0, x.f0.toNat * 2 + 1, none⟩ = some (.int .i64 d)) :
  Calls Tryz.prog 127 #[.pointer (some ⟨sc, 0, none⟩), .agg #[.int .i64 x.f0, .int .i64 x.f1, .int .i64 x.f2, .int .i64 x.f3, .int .i64 x.f4, .slice A5 x.f5.length c5, .slice A6 x.f6.length c6], taker bx] W (toldPost W sc n0 base f FA fc SA sn sl T (pre ++ [⟨0, atE f x.f2, 0⟩]) next) := by
 have HS := Lib.hid hS
 have HTT := Lib.hid hT
 have hlt := HT.lt
 have HK := Lib.hid HT
 clear hS hT HT
 unfold taker
 go_enter Tryz.func127, Tryz.ntmps127
 go_upto_region 1 with (fail)
 have hb1 := below1 W (.cells #[.int .i64 x.f0, .int .i64 x.f1, .int .i64 x.f2, .int .i64 x.f3, .int .i64 x.f4, .slice A5 x.f5.length c5, .slice A6 x.f6.length c6] 79)
 have hnw := alloc_new W (.cells #[.int .i64 x.f0, .int .i64 x.f1, .int .i64 x.f2, .int .i64 x.f3, .int .i64 x.f4, .slice A5 x.f5.length c5, .slice A6 x.f6.length c6] 79)
 replace k0 := below_cells hb1 _ _ k0
 replace k1 := below_cells hb1 _ _ k1
 have z0 := blk_cell hnw 0
 have z1 := blk_cell hnw 1
 have z2 := blk_cell hnw 2
 simp only [List.getElem?_toArray, List.getElem?_cons_succ, List.getElem?_cons_zero] at z0 z1 z2
 obtain ⟨xb, hxb⟩ : ∃ xb, W.heap.size = xb := ⟨_, rfl⟩
 have hxs : sc < xb := hxb ▸ blk_lt HS.out
 rw [hxb] at z0 z1 z2 hnw ⊢
 generalize World.alloc _ _ = W1 at k0 k1 z0 z1 z2 hnw hb1 ⊢
 go_upto_region 2 with (fail)
 have hb2 := below1 W1 (.cells #[.int .i64 2, .int .i64 d] 226)
 have hnt := alloc_new W1 (.cells #[.int .i64 2, .int .i64 d] 226)
 obtain ⟨tb, htb⟩ : ∃ tb, W1.heap.size = tb := ⟨_, rfl⟩
 have hb3 := hb1.trans (hb2.mono hb1.size)
 have HS2 := Lib.hid (show SceneAt (W1.alloc (.cells #[.int .i64 2, .int .i64 d] 226)) sc f FA fc SA sn sl next from (hb3.block _ (blk_lt HS.out)).trans HS.out)
 have HT2 := Lib.hid (HK.out.keep _ _ _ (Kept.of_below hb3) HTT.out)
 have HB2 := Lib.hid (hb3.mono (Nat.le_trans hbs (Nat.le_of_lt (blk_lt HS.out))))
 have hz2 := hb3.size
 replace z1 := below_cells hb2 _ _ z1
 replace z2 := below_cells hb2 _ _ z2
 have HNW := Lib.hid ((hb2.block _ (blk_lt hnw)).trans hnw)
 rw [htb] at hnt ⊢
 have d0 := blk_cell hnt 0
 have d1 := blk_cell hnt 1
 simp only [List.getElem?_toArray, List.getElem?_cons_succ, List.getElem?_cons_zero] at d0 d1
 have HNT := Lib.hid hnt
 clear hnt hnw hb1 hb2 hb3 htb hxb k0 k1 z0
 generalize World.alloc _ _ = W2 at z1 z2 d0 d1 HS2 HT2 HB2 hz2 HNW HNT ⊢
 go_wp2_with fail
 refine (at_any sc f FA fc SA sn sl next x.f2 W2 HS2.out h1 hs).mono ?_
 rintro r w2 ⟨rfl, rfl⟩
 go_wp2_with fail
 refine (HK.out.call _ ⟨0, atE f x.f2, 0⟩ W2 HT2.out hN).mono ?_
 rintro r w2 ⟨rfl, ht, hb, hst⟩
 have HT4 := Lib.hid ht
 have HS4 := Lib.hid (hst _ _ _ HS2.out (by decide) (by decide))
 have HB4 := Lib.hid (HB2.out.trans (hb.mono (Nat.le_trans hbs (Nat.le_of_lt hlt))))
 have hz4 := Nat.le_trans hz2 hb.size
 clear ht hb hst z1 z2 d0 d1
 go_wp2_with fail
 go_ret
 exact ⟨rfl, HT4.out, HS4.out, HB4.out, hz4⟩
set_option maxRecDepth 100000 in
set_option maxHeartbeats 3200000 in
theorem told_nothing (sc n0 bx N base : Nat) (T : List Edg → World → Prop) (HT : Takes sc n0 bx N T) (hbs : base ≤ sc) (f : Fun) (FA : Option Addr) (fc : Nat) (SA : Option Addr) (sn sl : Nat) (next : Int) (pre : List Edg) (x : Ins) (A5 : Option Addr) (c5 : Nat) (A6 : Option Addr) (c6 : Nat) (W : World)
  (hS : SceneAt W sc f FA fc SA sn sl next) (hT : T pre W) (h1 : 0 ≤ f.f1 ∧ f.f1 ≤ 4)  (h0 : 0 ≤ x.f0 ∧ x.f0 < 18) (d : Int)
  (k0 : W.cell? ⟨0, x.f0.toNat * 2, none⟩ = some (.int .i64 0)) (k1 : W.cell? ⟨0, x.f0.toNat * 2 + 1, none⟩ = some (.int .i64 d)) :
  Calls Tryz.prog 127 #[.pointer (some ⟨sc, 0, none⟩), .agg #[.int .i64 x.f0, .int .i64 x.f1, .int .i64 x.f2, .int .i64 x.f3, .int .i64 x.f4, .slice A5 x.f5.length c5, .slice A6 x.f6.length c6], taker bx] W (toldPost W sc n0 base f FA fc SA sn sl T (pre) next) := by
 have HS := Lib.hid hS
 have HTT := Lib.hid hT
 have hlt := HT.lt
 have HK := Lib.hid HT
 clear hS hT HT
 unfold taker
 go_enter Tryz.func127, Tryz.ntmps127
 go_upto_region 1 with (fail)
 have hb1 := below1 W (.cells #[.int .i64 x.f0, .int .i64 x.f1, .int .i64 x.f2, .int .i64 x.f3, .int .i64 x.f4, .slice A5 x.f5.length c5, .slice A6 x.f6.length c6] 79)
 have hnw := alloc_new W (.cells #[.int .i64 x.f0, .int .i64 x.f1, .int .i64 x.f2, .int .i64 x.f3, .int .i64 x.f4, .slice A5 x.f5.length c5, .slice A6 x.f6.length c6] 79)
 replace k0 := below_cells hb1 _ _ k0
 replace k1 := below_cells hb1 _ _ k1
 have z0 := blk_cell hnw 0
 have z1 := blk_cell hnw 1
 have z2 := blk_cell hnw 2
 simp only [List.getElem?_toArray, List.getElem?_cons_succ, List.getElem?_cons_zero] at z0 z1 z2
 obtain ⟨xb, hxb⟩ : ∃ xb, W.heap.size = xb := ⟨_, rfl⟩
 have hxs : sc < xb := hxb ▸ blk_lt HS.out
 rw [hxb] at z0 z1 z2 hnw ⊢
 generalize World.alloc _ _ = W1 at k0 k1 z0 z1 z2 hnw hb1 ⊢
 go_upto_region 2 with (fail)
 have hb2 := below1 W1 (.cells #[.int .i64 0, .int .i64 d] 226)
 have hnt := alloc_new W1 (.cells #[.int .i64 0, .int .i64 d] 226)
 obtain ⟨tb, htb⟩ : ∃ tb, W1.heap.size = tb := ⟨_, rfl⟩
 have hb3 := hb1.trans (hb2.mono hb1.size)
 have HS2 := Lib.hid (show SceneAt (W1.alloc (.cells #[.int .i64 0, .int .i64 d] 226)) sc f FA fc SA sn sl next from (hb3.block _ (blk_lt HS.out)).trans HS.out)
 have HT2 := Lib.hid (HK.out.keep _ _ _ (Kept.of_below hb3) HTT.out)
 have HB2 := Lib.hid (hb3.mono (Nat.le_trans hbs (Nat.le_of_lt (blk_lt HS.out))))
 have hz2 := hb3.size
 replace z1 := below_cells hb2 _ _ z1
 replace z2 := below_cells hb2 _ _ z2
 have HNW := Lib.hid ((hb2.block _ (blk_lt hnw)).trans hnw)
 rw [htb] at hnt ⊢
 have d0 := blk_cell hnt 0
 have d1 := blk_cell hnt 1
 simp only [List.getElem?_toArray, List.getElem?_cons_succ, List.getElem?_cons_zero] at d0 d1
 have HNT := Lib.hid hnt
 clear hnt hnw hb1 hb2 hb3 htb hxb k0 k1 z0
 generalize World.alloc _ _ = W2 at z1 z2 d0 d1 HS2 HT2 HB2 hz2 HNW HNT ⊢
 go_wp2_with fail
 go_ret
 exact ⟨rfl, HT2.out, HS2.out, HB2.out, hz2⟩
set_option maxRecDepth 100000 in
set_option maxHeartbeats 3200000 in
theorem told_returned (sc n0 bx N base : Nat) (T : List Edg → World → Prop) (HT : Takes sc n0 bx N T) (hbs : base ≤ sc) (f : Fun) (FA : Option Addr) (fc : Nat) (SA : Option Addr) (sn sl : Nat) (next : Int) (pre : List Edg) (x : Ins) (A5 : Option Addr) (c5 : Nat) (A6 : Option Addr) (c6 : Nat) (w0 W : World) (hB : Below base w0 W) (hb0 : base = w0.heap.size)
  (hS : SceneAt W sc f FA fc SA sn sl next) (hT : T pre W) (h1 : 0 ≤ f.f1 ∧ f.f1 ≤ 4) (h5 : (Kd.int .i64).C w0 A5 x.f5.length x.f5) (hx : ∀ v ∈ x.f5, 0 ≤ v ∧ v < 256) (hl : x.f5.length ≤ 255) (hN : pre.length + x.f5.length ≤ N) (h0 : 0 ≤ x.f0 ∧ x.f0 < 18) (d : Int)
  (k0 : W.cell? ⟨0, x.f0.toNat * 2, none⟩ = some (.int .i64 5)) (k1 : W.cell? ⟨0, x.f0.toNat * 2 + 1, none⟩ = some (.int .i64 d)) :
  Calls Tryz.prog 127 #[.pointer (some ⟨sc, 0, none⟩), .agg #[.int .i64 x.f0, .int .i64 x.f1, .int .i64 x.f2, .int .i64 x.f3, .int .i64 x.f4, .slice A5 x.f5.length c5, .slice A6 x.f6.length c6], taker bx] W (toldPost W sc n0 base f FA fc SA sn sl T (pre ++ retE f x.f5) next) := by
 have HS := Lib.hid hS
 have HTT := Lib.hid hT
 have hlt := HT.lt
 have HK := Lib.hid HT
 clear hS hT HT
 unfold taker
 go_enter Tryz.func127, Tryz.ntmps127
 go_upto_region 1 with (fail)
 have hb1 := below1 W (.cells #[.int .i64 x.f0, .int .i64 x.f1, .int .i64 x.f2, .int .i64 x.f3, .int .i64 x.f4, .slice A5 x.f5.length c5, .slice A6 x.f6.length c6] 79)
 have hnw := alloc_new W (.cells #[.int .i64 x.f0, .int .i64 x.f1, .int .i64 x.f2, .int .i64 x.f3, .int .i64 x.f4, .slice A5 x.f5.length c5, .slice A6 x.f6.length c6] 79)
 replace k0 := below_cells hb1 _ _ k0
 replace k1 := below_cells hb1 _ _ k1
 have z0 := blk_cell hnw 0
 have z1 := blk_cell hnw 1
 have z2 := blk_cell hnw 2
 simp only [List.getElem?_toArray, List.getElem?_cons_succ, List.getElem?_cons_zero] at z0 z1 z2
 obtain ⟨xb, hxb⟩ : ∃ xb, W.heap.size = xb := ⟨_, rfl⟩
 have hxs : sc < xb := hxb ▸ blk_lt HS.out
 rw [hxb] at z0 z1 z2 hnw ⊢
 generalize World.alloc _ _ = W1 at k0 k1 z0 z1 z2 hnw hb1 ⊢
 go_upto_region 2 with (fail)
 have hb2 := below1 W1 (.cells #[.int .i64 5, .int .i64 d] 226)
 have hnt := alloc_new W1 (.cells #[.int .i64 5, .int .i64 d] 226)
 obtain ⟨tb, htb⟩ : ∃ tb, W1.heap.size = tb := ⟨_, rfl⟩
 have hb3 := hb1.trans (hb2.mono hb1.size)
 have HS2 := Lib.hid (show SceneAt (W1.alloc (.cells #[.int .i64 5, .int .i64 d] 226)) sc f FA fc SA sn sl next from (hb3.block _ (blk_lt HS.out)).trans HS.out)
 have HT2 := Lib.hid (HK.out.keep _ _ _ (Kept.of_below hb3) HTT.out)
 have HB2 := Lib.hid (hb3.mono (Nat.le_trans hbs (Nat.le_of_lt (blk_lt HS.out))))
 have hz2 := hb3.size
 replace z1 := below_cells hb2 _ _ z1
 replace z2 := below_cells hb2 _ _ z2
 have HNW := Lib.hid ((hb2.block _ (blk_lt hnw)).trans hnw)
 rw [htb] at hnt ⊢
 have d0 := blk_cell hnt 0
 have d1 := blk_cell hnt 1
 simp only [List.getElem?_toArray, List.getElem?_cons_succ, List.getElem?_cons_zero] at d0 d1
 have HNT := Lib.hid hnt
 clear hnt hnw hb1 hb2 hb3 htb hxb k0 k1 z0
 generalize World.alloc _ _ = W2 at z1 z2 d0 d1 HS2 HT2 HB2 hz2 HNW HNT ⊢
 have y0 := blk_cell HNW.out 0
 have y1 := blk_cell HNW.out 1
 have y2 := blk_cell HNW.out 2
 have y3 := blk_cell HNW.out 3
 have y4 := blk_cell HNW.out 4
 have y5 := blk_cell HNW.out 5
 have y6 := blk_cell HNW.out 6
 simp only [List.getElem?_toArray, List.getElem?_cons_succ, List.getElem?_cons_zero] at y0 y1 y2 y3 y4 y5 y6
 clear z1 z2
 go_wp2_with fail
 have HBw := Lib.hid (hB.trans HB2.out)
 refine (returned_any sc n0 bx N base T HK.out hbs f FA fc SA sn sl next pre x A5 c5 A6 c6 w0 W2 HBw.out hb0 h5 HS2.out HT2.out h1 hx hl hN).mono ?_
 rintro r w2 ⟨rfl, ht, hs4, hb4, hz⟩
 have HT4 := Lib.hid ht
 have HS4 := Lib.hid hs4
 have HB4 := Lib.hid (HB2.out.trans hb4)
 have hz4 := Nat.le_trans hz2 hz
 clear ht hs4 hb4 hz y0 y1 y2 y3 y4 y5 y6 d0 d1
 go_wp2_with fail
 go_ret
 exact ⟨rfl, HT4.out, HS4.out, HB4.out, hz4⟩
set_option maxRecDepth 100000 in
set_option maxHeartbeats 3200000 in
theorem told_called (sc n0 bx N base : Nat) (T : List Edg → World → Prop) (HT : Takes sc n0 bx N T) (hbs : base ≤ sc) (f : Fun) (FA : Option Addr) (fc : Nat) (SA : Option Addr) (sn sl : Nat) (next : Int) (pre : List Edg) (x : Ins) (A5 : Option Addr) (c5 : Nat) (A6 : Option Addr) (c6 : Nat) (w0 W : World) (hB : Below base w0 W) (hb0 : base = w0.heap.size)
  (hS : SceneAt W sc f FA fc SA sn sl next) (hT : T pre W) (h1 : 0 ≤ f.f1 ∧ f.f1 ≤ 4) (h5 : (Kd.int .i64).C w0 A5 x.f5.length x.f5) (h6 : (Kd.int .i64).C w0 A6 x.f6.length x.f6) (sums : List Smm) (hsn : sn = sums.length) (hsm : k34.C w0 SA sums.length sums) (hx : ∀ v ∈ x.f5, 0 ≤ v ∧ v < 256) (hy : ∀ v ∈ x.f6, 0 ≤ v ∧ v < 256) (hl : x.f5.length ≤ 8) (hl6 : x.f6.length ≤ 4) (s : Smm) (h4 : 0 ≤ x.f4 ∧ x.f4 < sums.length) (hs0 : s = sums.getD x.f4.toNat zS) (hs1 : s.f0.length = x.f5.length) (hs2 : s.f1.length = x.f5.length) (hs3 : ∀ r ∈ s.f1, r.length = x.f6.length) (hN : pre.length + 40 ≤ N) (h0 : 0 ≤ x.f0 ∧ x.f0 < 18) (d : Int)
  (k0 : W.cell? ⟨0, x.f0.toNat * 2, none⟩ = some (.int .i64 4)) (k1 : W.cell? ⟨0, x.f0.toNat * 2 + 1, none⟩ = some (.int .i64 d)) :
  Calls Tryz.prog 127 #[.pointer (some ⟨sc, 0, none⟩), .agg #[.int .i64 x.f0, .int .i64 x.f1, .int .i64 x.f2, .int .i64 x.f3, .int .i64 x.f4, .slice A5 x.f5.length c5, .slice A6 x.f6.length c6], taker bx] W (toldPost W sc n0 base f FA fc SA sn sl T (pre ++ callE f x s x.f5.length) next) := by
 have HS := Lib.hid hS
 have HTT := Lib.hid hT
 have hlt := HT.lt
 have HK := Lib.hid HT
 subst hsn
 have HSM := Lib.hid hsm
 have HX := Lib.hid hx
 have HY := Lib.hid hy
 have HZ0 := Lib.hid hs0
 have HZ1 := Lib.hid hs1
 have HZ2 := Lib.hid hs2
 have HZ3 := Lib.hid hs3
 clear hS hT HT hsm hx hy hs0 hs1 hs2 hs3
 unfold taker
 go_enter Tryz.func127, Tryz.ntmps127
 go_upto_region 1 with (fail)
 have hb1 := below1 W (.cells #[.int .i64 x.f0, .int .i64 x.f1, .int .i64 x.f2, .int .i64 x.f3, .int .i64 x.f4, .slice A5 x.f5.length c5, .slice A6 x.f6.length c6] 79)
 have hnw := alloc_new W (.cells #[.int .i64 x.f0, .int .i64 x.f1, .int .i64 x.f2, .int .i64 x.f3, .int .i64 x.f4, .slice A5 x.f5.length c5, .slice A6 x.f6.length c6] 79)
 replace k0 := below_cells hb1 _ _ k0
 replace k1 := below_cells hb1 _ _ k1
 have z0 := blk_cell hnw 0
 have z1 := blk_cell hnw 1
 have z2 := blk_cell hnw 2
 simp only [List.getElem?_toArray, List.getElem?_cons_succ, List.getElem?_cons_zero] at z0 z1 z2
 obtain ⟨xb, hxb⟩ : ∃ xb, W.heap.size = xb := ⟨_, rfl⟩
 have hxs : sc < xb := hxb ▸ blk_lt HS.out
 rw [hxb] at z0 z1 z2 hnw ⊢
 generalize World.alloc _ _ = W1 at k0 k1 z0 z1 z2 hnw hb1 ⊢
 go_upto_region 2 with (fail)
 have hb2 := below1 W1 (.cells #[.int .i64 4, .int .i64 d] 226)
 have hnt := alloc_new W1 (.cells #[.int .i64 4, .int .i64 d] 226)
 obtain ⟨tb, htb⟩ : ∃ tb, W1.heap.size = tb := ⟨_, rfl⟩
 have hb3 := hb1.trans (hb2.mono hb1.size)
 have HS2 := Lib.hid (show SceneAt (W1.alloc (.cells #[.int .i64 4, .int .i64 d] 226)) sc f FA fc SA sums.length sl next from (hb3.block _ (blk_lt HS.out)).trans HS.out)
 have HT2 := Lib.hid (HK.out.keep _ _ _ (Kept.of_below hb3) HTT.out)
 have HB2 := Lib.hid (hb3.mono (Nat.le_trans hbs (Nat.le_of_lt (blk_lt HS.out))))
 have hz2 := hb3.size
 replace z1 := below_cells hb2 _ _ z1
 replace z2 := below_cells hb2 _ _ z2
 have HNW := Lib.hid ((hb2.block _ (blk_lt hnw)).trans hnw)
 rw [htb] at hnt ⊢
 have d0 := blk_cell hnt 0
 have d1 := blk_cell hnt 1
 simp only [List.getElem?_toArray, List.getElem?_cons_succ, List.getElem?_cons_zero] at d0 d1
 have HNT := Lib.hid hnt
 clear hnt hnw hb1 hb2 hb3 htb hxb k0 k1 z0
 generalize World.alloc _ _ = W2 at z1 z2 d0 d1 HS2 HT2 HB2 hz2 HNW HNT ⊢
 have y0 := blk_cell HNW.out 0
 have y1 := blk_cell HNW.out 1
 have y2 := blk_cell HNW.out 2
 have y3 := blk_cell HNW.out 3
 have y4 := blk_cell HNW.out 4
 have y5 := blk_cell HNW.out 5
 have y6 := blk_cell HNW.out 6
 simp only [List.getElem?_toArray, List.getElem?_cons_succ, List.getElem?_cons_zero] at y0 y1 y2 y3 y4 y5 y6
 clear z1 z2
 go_wp2_with fail
 have HBw := Lib.hid (hB.trans HB2.out)
 refine (called_any sc n0 bx N base T HK.out hbs f FA fc SA sums sl next pre x A5 c5 A6 c6 w0 W2 HBw.out hb0 h5 h6 HSM.out HS2.out HT2.out h1 HX.out HY.out hl hl6 s h4 HZ0.out HZ1.out HZ2.out HZ3.out hN).mono ?_
 rintro r w2 ⟨rfl, ht, hs4, hb4, hz⟩
 have HT4 := Lib.hid ht
 have HS4 := Lib.hid hs4
 have HB4 := Lib.hid (HB2.out.trans hb4)
 have hz4 := Nat.le_trans hz2 hz
 clear ht hs4 hb4 hz y0 y1 y2 y3 y4 y5 y6 d0 d1
 go_wp2_with fail
 go_ret
 exact ⟨rfl, HT4.out, HS4.out, HB4.out, hz4⟩
open Go.RowKit Go.Shelf Go.Maps Go.Proofs.YtcbcacbbnojdjaaGreatDoorW.PrintWords Go.Proofs.YtcbcacbbnojdjaaGreatDoorW.PrintLast Go.Proofs.YtcbcacbbnojdjaaGreatDoor.PSolveFunctions
attribute [local go_sem] Oper.semAt_some
def edgV (e : Edg) : Value := .agg #[.int .i64 e.f0, .int .i64 e.f1, .int .i64 e.f2]
set_option maxHeartbeats 1600000 in
theorem edge_any (l m bx : Nat) (e : Edg) (W : World) (R : Ending → World → Prop) (hb : W.heap[bx]? = some (.cells #[.func (.yield l) #[] #[]] 176 (0, 0)))
  (hy : YieldAt Fence.wide m Tryz.prog l #[edgV e] W fun r W' => r = .returned (.bool true) ∧ R r W') :
  Calls Tryz.prog 126 #[.int .i64 e.f0, .int .i64 e.f1, .int .i64 e.f2, .pointer (some ⟨bx, 0, none⟩)] W R := by
 refine (callsIn_wide (n := m + 1)).1 ?_
 have c0 := blk_cell hb 0
 simp only [List.getElem?_toArray, List.getElem?_cons_succ, List.getElem?_cons_zero] at c0
 obtain ⟨fn, tmps, assign, body, hy, hR⟩ := hy
 unfold edgV at hy
 clear hb
 refine callsIn_of_wp Tryz.func126 rfl trivial ?_ rfl
 simp only [Tryz.ntmps126, List.size_toArray, List.length_cons, List.length_nil, Nat.reduceAdd, Nat.reduceSub, Array.replicate_succ, Array.replicate_zero, List.push_toArray, List.append_toArray, List.nil_append, List.cons_append]
 gi_wp2
 refine hR.mono ?_
 rintro r w' ⟨rfl, hr⟩
 gi_wp2
 exact hr
def edgE (f : Fun) (sums : List Smm) (next : Int) (x : Ins) : List Edg :=
 if x.f0 = 2 then [⟨atE f x.f1, atE f x.f2, 0⟩] else
 if x.f0 = 5 then [⟨atE f x.f1, atE f x.f2, -1⟩] else
 if x.f0 = 7 then [⟨atE f x.f1, atE f x.f2, 1⟩] else
 if x.f0 = 8 ∨ x.f0 = 10 then [⟨0, atE f x.f2, 0⟩] else
 if x.f0 = 6 then [⟨atE f x.f1, next, -1⟩] else
 if x.f0 = 11 then callE f x (sums.getD x.f4.toNat zS) x.f5.length else
 if x.f0 = 15 then retE f x.f5 else []
def nextE (next : Int) (x : Ins) : Int := if x.f0 = 6 then next + 1 else next
def allE (f : Fun) (sums : List Smm) (n0 : Int) : Nat → List Edg × Int
 | 0 => ([], n0)
 | k + 1 => ((allE f sums n0 k).1 ++ edgE f sums (allE f sums n0 k).2 (f.f3.getD k zI), nextE (allE f sums n0 k).2 (f.f3.getD k zI))
structure InsOk (sums : List Smm) (x : Ins) : Prop where
 op : 0 ≤ x.f0 ∧ x.f0 < 18
 r : 0 ≤ x.f1 ∧ x.f1 < 256
 s : 0 ≤ x.f2 ∧ x.f2 < 256
 args : ∀ v ∈ x.f5, 0 ≤ v ∧ v < 256
 rets : ∀ v ∈ x.f6, 0 ≤ v ∧ v < 256
 l5 : x.f5.length ≤ 8
 l6 : x.f6.length ≤ 4
 call : x.f0 = 11 → (0 ≤ x.f4 ∧ x.f4 < sums.length) ∧ (sums.getD x.f4.toNat zS).f0.length = x.f5.length ∧ (sums.getD x.f4.toNat zS).f1.length = x.f5.length ∧ ∀ r ∈ (sums.getD x.f4.toNat zS).f1, r.length = x.f6.length
theorem told_any (sc n0 bx N base : Nat) (T : List Edg → World → Prop) (HT : Takes sc n0 bx N T) (hbs : base ≤ sc) (f : Fun) (FA : Option Addr) (fc : Nat) (SA : Option Addr) (sums : List Smm) (sl : Nat) (next : Int) (pre : List Edg) (x : Ins) (A5 : Option Addr) (c5 : Nat) (A6 : Option Addr) (c6 : Nat) (w0 W : World) (hB : Below base w0 W) (hb0 : base = w0.heap.size)
  (hS : SceneAt W sc f FA fc SA sums.length sl next) (hT : T pre W) (h1 : 0 ≤ f.f1 ∧ f.f1 ≤ 4) (hx : InsOk sums x) (hn : 0 ≤ next ∧ next < 2097152) (htl : TellsAt w0)
  (h5 : (Kd.int .i64).C w0 A5 x.f5.length x.f5) (h6 : (Kd.int .i64).C w0 A6 x.f6.length x.f6) (hsm : k34.C w0 SA sums.length sums) (hN : pre.length + 40 ≤ N) :
  Calls Tryz.prog 127 #[.pointer (some ⟨sc, 0, none⟩), .agg #[.int .i64 x.f0, .int .i64 x.f1, .int .i64 x.f2, .int .i64 x.f3, .int .i64 x.f4, .slice A5 x.f5.length c5, .slice A6 x.f6.length c6], taker bx] W (toldPost W sc n0 base f FA fc SA sums.length sl T (pre ++ edgE f sums next x) (nextE next x)) := by
 have hk : x.f0.toNat < 18 := by have := hx.op; omega
 have ht := htl x.f0.toNat hk
 have k0 := below_cells (hb0 ▸ hB) _ _ ht.1
 have k1 := below_cells (hb0 ▸ hB) _ _ ht.2
 have hop := hx.op
 have hl5 := hx.l5
 obtain ⟨k, hk0⟩ : ∃ k : Nat, x.f0 = (k : Int) := ⟨x.f0.toNat, by omega⟩
 have hkt : x.f0.toNat = k := by omega
 have hk18 : k < 18 := by omega
 rw [hkt] at k0 k1
 have h11 := hx.call
 have mv : ∀ d, edgE f sums next x = [⟨atE f x.f1, atE f x.f2, d⟩] → nextE next x = next → (tellsOf.getD k (0, 0)).1 = 1 → (tellsOf.getD k (0, 0)).2 = d → Calls Tryz.prog 127 #[.pointer (some ⟨sc, 0, none⟩), .agg #[.int .i64 x.f0, .int .i64 x.f1, .int .i64 x.f2, .int .i64 x.f3, .int .i64 x.f4, .slice A5 x.f5.length c5, .slice A6 x.f6.length c6], taker bx] W (toldPost W sc n0 base f FA fc SA sums.length sl T (pre ++ edgE f sums next x) (nextE next x)) := by
  intro d he hn' e0 e1
  rw [he, hn']
  rw [e0] at k0
  rw [e1] at k1
  exact told_moved sc n0 bx N base T HT hbs f FA fc SA sums.length sl next pre x A5 c5 A6 c6 W hS hT h1 hx.r hx.s (by omega) hop d (by rw [hkt]; exact k0) (by rw [hkt]; exact k1)
 have no : edgE f sums next x = [] → nextE next x = next → (tellsOf.getD k (0, 0)).1 = 0 → Calls Tryz.prog 127 #[.pointer (some ⟨sc, 0, none⟩), .agg #[.int .i64 x.f0, .int .i64 x.f1, .int .i64 x.f2, .int .i64 x.f3, .int .i64 x.f4, .slice A5 x.f5.length c5, .slice A6 x.f6.length c6], taker bx] W (toldPost W sc n0 base f FA fc SA sums.length sl T (pre ++ edgE f sums next x) (nextE next x)) := by
  intro he hn' e0
  rw [he, hn', List.append_nil]
  rw [e0] at k0
  exact told_nothing sc n0 bx N base T HT hbs f FA fc SA sums.length sl next pre x A5 c5 A6 c6 W hS hT h1 hop _ (by rw [hkt]; exact k0) (by rw [hkt]; exact k1)
 have st : edgE f sums next x = [⟨0, atE f x.f2, 0⟩] → nextE next x = next → (tellsOf.getD k (0, 0)).1 = 2 → Calls Tryz.prog 127 #[.pointer (some ⟨sc, 0, none⟩), .agg #[.int .i64 x.f0, .int .i64 x.f1, .int .i64 x.f2, .int .i64 x.f3, .int .i64 x.f4, .slice A5 x.f5.length c5, .slice A6 x.f6.length c6], taker bx] W (toldPost W sc n0 base f FA fc SA sums.length sl T (pre ++ edgE f sums next x) (nextE next x)) := by
  intro he hn' e0
  rw [he, hn']
  rw [e0] at k0
  exact told_stored sc n0 bx N base T HT hbs f FA fc SA sums.length sl next pre x A5 c5 A6 c6 W hS hT h1 hx.s (by omega) hop _ (by rw [hkt]; exact k0) (by rw [hkt]; exact k1)
 have hc : k = 0 ∨ k = 1 ∨ k = 2 ∨ k = 3 ∨ k = 4 ∨ k = 5 ∨ k = 6 ∨ k = 7 ∨ k = 8 ∨ k = 9 ∨ k = 10 ∨ k = 11 ∨ k = 12 ∨ k = 13 ∨ k = 14 ∨ k = 15 ∨ k = 16 ∨ k = 17 := by omega
 rcases hc with rfl | rfl | rfl | rfl | rfl | rfl | rfl | rfl | rfl | rfl | rfl | rfl | rfl | rfl | rfl | rfl | rfl | rfl
 case inr.inr.inl => exact mv 0 (by simp [edgE, hk0]) (by simp [nextE, hk0]) rfl rfl
 case inr.inr.inr.inr.inr.inl => exact mv (-1) (by simp [edgE, hk0]) (by simp [nextE, hk0]) rfl rfl
 case inr.inr.inr.inr.inr.inr.inl =>
  rw [show edgE f sums next x = [⟨atE f x.f1, next, -1⟩] by simp [edgE, hk0], show nextE next x = next + 1 by simp [nextE, hk0]]
  exact told_made sc n0 bx N base T HT hbs f FA fc SA sums.length sl next pre x A5 c5 A6 c6 W hS hT h1 hx.r hn (by omega) hop _ (by rw [hkt]; exact k0) (by rw [hkt]; exact k1)
 case inr.inr.inr.inr.inr.inr.inr.inl => exact mv 1 (by simp [edgE, hk0]) (by simp [nextE, hk0]) rfl rfl
 case inr.inr.inr.inr.inr.inr.inr.inr.inl => exact st (by simp [edgE, hk0]) (by simp [nextE, hk0]) rfl
 case inr.inr.inr.inr.inr.inr.inr.inr.inr.inr.inl => exact st (by simp [edgE, hk0]) (by simp [nextE, hk0]) rfl
 case inr.inr.inr.inr.inr.inr.inr.inr.inr.inr.inr.inl =>
  obtain ⟨g1, g2, g3, g4⟩ := h11 hk0
  rw [show edgE f sums next x = callE f x (sums.getD x.f4.toNat zS) x.f5.length by simp [edgE, hk0], show nextE next x = next by simp [nextE, hk0]]
  exact told_called sc n0 bx N base T HT hbs f FA fc SA sums.length sl next pre x A5 c5 A6 c6 w0 W hB hb0 hS hT h1 h5 h6 sums rfl hsm hx.args hx.rets hx.l5 hx.l6 _ g1 rfl g2 g3 g4 hN hop _ (by rw [hkt]; exact k0) (by rw [hkt]; exact k1)
 case inr.inr.inr.inr.inr.inr.inr.inr.inr.inr.inr.inr.inr.inr.inr.inl =>
  rw [show edgE f sums next x = retE f x.f5 by simp [edgE, hk0], show nextE next x = next by simp [nextE, hk0]]
  exact told_returned sc n0 bx N base T HT hbs f FA fc SA sums.length sl next pre x A5 c5 A6 c6 w0 W hB hb0 hS hT h1 h5 hx.args (by omega) (by omega) hop _ (by rw [hkt]; exact k0) (by rw [hkt]; exact k1)
 all_goals exact no (by simp [edgE, hk0]) (by simp [nextE, hk0]) rfl
theorem edgE_length (f : Fun) (sums : List Smm) (next : Int) (x : Ins) (h5 : x.f5.length ≤ 8) (h6 : x.f6.length ≤ 4) : (edgE f sums next x).length ≤ 40 := by
 have h1 := callE_length f x (sums.getD x.f4.toNat zS) x.f5.length
 have h2 : x.f5.length * (x.f6.length + 1) ≤ 8 * 5 := Nat.mul_le_mul h5 (by omega)
 unfold edgE
 repeat' split
 all_goals first | omega | (simp; done) | (rw [retE_length]; omega) | simp
theorem allE_length (f : Fun) (sums : List Smm) (n0 : Int) (hok : ∀ x ∈ f.f3, InsOk sums x) : ∀ k, k ≤ f.f3.length → (allE f sums n0 k).1.length ≤ 40 * k
 | 0, _ => by simp [allE]
 | k + 1, h => by
  have h1 := allE_length f sums n0 hok k (by omega)
  have hm : f.f3.getD k zI ∈ f.f3 := by rw [List.getD_eq_getElem?_getD, List.getElem?_eq_getElem (show k < f.f3.length by omega)]; exact List.getElem_mem _
  have h2 := edgE_length f sums (allE f sums n0 k).2 (f.f3.getD k zI) (hok _ hm).l5 (hok _ hm).l6
  rw [allE, List.length_append]
  omega
theorem allE_next (f : Fun) (sums : List Smm) (n0 : Int) : ∀ k, n0 ≤ (allE f sums n0 k).2 ∧ (allE f sums n0 k).2 ≤ n0 + k
 | 0 => by simp [allE]
 | k + 1 => by
  have h1 := allE_next f sums n0 k
  rw [allE]
  unfold nextE
  dsimp only
  split <;> omega
set_option maxRecDepth 100000 in
set_option maxHeartbeats 3200000 in
theorem iter_any (l sb sc n0 N base : Nat) (T : List Edg → World → Prop) (hkeep : ∀ pre W W', Kept sc W W' → T pre W → T pre W')
  (hY : ∀ pre (e : Edg) W, T pre W → pre.length < N → YieldAt Fence.wide 3 Tryz.prog l #[edgV e] W fun r W' => r = .returned (.bool true) ∧ T (pre ++ [e]) W' ∧ Below n0 W W' ∧ Stay W W')
  (hlt : sc < n0) (hbs : base ≤ sc) (f : Fun) (FA : Option Addr) (fc : Nat) (SA : Option Addr) (sums : List Smm) (sl : Nat) (nx : Int) (w0 W : World) (hB : Below base w0 W) (hb0 : base = w0.heap.size)
  (hsb : W.heap[sb]? = some (.cells #[.pointer (some ⟨sc, 0, none⟩)] 137 (0, 0))) (hS : SceneAt W sc f FA fc SA sums.length sl nx) (hC : k79.C w0 FA f.f3.length f.f3) (hsm : k34.C w0 SA sums.length sums) (htl : TellsAt w0)
  (h1 : 0 ≤ f.f1 ∧ f.f1 ≤ 4) (hok : ∀ x ∈ f.f3, InsOk sums x) (hnx : 0 ≤ nx ∧ nx < 1048576) (hlen : f.f3.length ≤ 4096) (hN : 40 * f.f3.length + 40 ≤ N) (hT : T [] W) :
  Calls Tryz.prog 125 #[.func (.yield l) #[] #[], .pointer (some ⟨sb, 0, none⟩)] W fun r W' => r = .returned (.tuple #[]) ∧ T (allE f sums nx f.f3.length).1 W' ∧ Below base W W' := by
 subst hb0
 have hmf : ∀ (fn : Fn) (first cap : Array Value) (w : World), (Instr.makeFunc fn first cap).run Tryz.prog w = .ok (.func fn first cap) w := fun _ _ _ _ => rfl
 have hsc := blk_lt hS
 have hsb' := blk_lt hsb
 have hne : sb ≠ sc := by
  rintro rfl
  have h1 : W.heap[sb]? = _ := hS
  rw [hsb] at h1
  injection h1 with h1
  injection h1 with _ h1 _
  exact absurd h1 (by decide)
 have hTK : Takes sc n0 W.heap.size N (fun pre V => T pre V ∧ V.heap[W.heap.size]? = some (.cells #[.func (.yield l) #[] #[]] 176 (0, 0)) ∧ V.heap[sb]? = some (.cells #[.pointer (some ⟨sc, 0, none⟩)] 137 (0, 0))) := by
  refine ⟨hlt, fun pre V V' hk h => ⟨hkeep pre V V' hk h.1, (hk.block _ (blk_lt h.2.1) (by omega)).trans h.2.1, (hk.block _ (blk_lt h.2.2) hne).trans h.2.2⟩, fun pre e V h hl => ?_⟩
  refine edge_any l 3 W.heap.size e V _ h.2.1 ?_
  obtain ⟨fn, tmps, assign, body, hy, hR⟩ := hY pre e V h.1 hl
  refine ⟨fn, tmps, assign, body, hy, hR.mono ?_⟩
  rintro r V' ⟨rfl, ht, hb, hst⟩
  exact ⟨rfl, rfl, ⟨ht, hst _ _ _ h.2.1 (by decide) (by decide), hst _ _ _ h.2.2 (by decide) (by decide)⟩, hb, hst⟩
 have hb1 := below1 W (.cells #[.func (.yield l) #[] #[]] 176)
 have hnw := alloc_new W (.cells #[.func (.yield l) #[] #[]] 176)
 have hlw : ∀ (o : Obj), W.heap.size < (W.alloc o).heap.size := fun o => by simp
 have HS1 := Lib.hid (show SceneAt (W.alloc (.cells #[.func (.yield l) #[] #[]] 176)) sc f FA fc SA sums.length sl nx from (hb1.block _ hsc).trans hS)
 have HT1 := Lib.hid (And.intro (hkeep _ _ _ (Kept.of_below hb1) hT) (And.intro hnw ((hb1.block _ hsb').trans hsb)))
 have HB1 := Lib.hid (hb1.mono (Nat.le_trans hbs (Nat.le_of_lt hsc)))
 have HB := Lib.hid hB
 have HC := Lib.hid hC
 have HSM := Lib.hid hsm
 have HTL := Lib.hid htl
 have HOK := Lib.hid hok
 have HTK := Lib.hid hTK
 clear hkeep hY hsb hS hC hsm htl hok hT hTK hB hsc hsb' hnw hb1 hlw
 go_enter Tryz.func125, Tryz.ntmps125
 go_upto_region 1 with (fail)
 obtain ⟨bx, hbx⟩ : ∃ bx, W.heap.size = bx := ⟨_, rfl⟩
 rw [hbx] at HT1 HTK ⊢
 have HBX := Lib.hid hbx
 have hz1 := HB1.out.size
 generalize World.alloc _ _ = W1 at HS1 HT1 HB1 hz1 ⊢
 clear hbx
 have c0 := blk_cell HT1.out.2.2 0
 have s3 := blk_cell HS1.out 3
 simp only [List.getElem?_toArray, List.getElem?_cons_succ, List.getElem?_cons_zero] at c0 s3
 go_wp2_with fail
 clear c0 s3
 obtain ⟨nc, hnc⟩ : ∃ nc, nc = f.f3.length := ⟨_, rfl⟩
 rw [← hnc]
 have HNC := Lib.hid hnc
 have hnc4 : nc ≤ 4096 := hnc ▸ hlen
 clear hnc
 go_loopw [13] (fun i wr => ∃ k : Nat, k ≤ nc ∧ i = .int .i64 k ∧ (T (allE f sums nx k).1 wr ∧ wr.heap[bx]? = some (.cells #[.func (.yield l) #[] #[]] 176 (0, 0)) ∧ wr.heap[sb]? = some (.cells #[.pointer (some ⟨sc, 0, none⟩)] 137 (0, 0))) ∧ SceneAt wr sc f FA fc SA sums.length sl (allE f sums nx k).2 ∧ Below w0.heap.size W wr) (fun i _ => nc - (intOf i).toNat)
 case atStart => exact ⟨0, by omega, rfl, HT1.out, HS1.out, HB1.out⟩
 case round =>
  clear HT1 HS1 HB1 hz1
  obtain ⟨k, hk, rfl, ht, hs, hb⟩ := hrel
  have HTr := Lib.hid ht
  have HSr := Lib.hid hs
  have HBr := Lib.hid hb
  clear ht hs hb
  have c0 := blk_cell HTr.out.2.2 0
  simp only [List.getElem?_toArray, List.getElem?_cons_succ, List.getElem?_cons_zero] at c0
  by_cases hltk : k < nc
  ·have hnl := HNC.out
   obtain ⟨cd, A5, c5, A6, c6, hCd, x0, x1, x2, x3, x4, x5, x6, _, h5, _, h6⟩ := at_T79 HC.out (k : Int) (by omega) (by omega)
   obtain ⟨x, hx0⟩ : ∃ x, x = f.f3.getD k zI := ⟨_, rfl⟩
   have hxr : rd_T79 f.f3 (k : Int) = x := by rw [rd_T79, Int.toNat_natCast]; exact hx0.symm
   rw [hxr] at x0 x1 x2 x3 x4 x5 x6 h5 h6
   rw [Int.toNat_natCast] at x0 x1 x2 x3 x4 x5 x6
   have hBB := HB.out.trans HBr.out
   replace x0 := below_cells hBB _ _ x0
   replace x1 := below_cells hBB _ _ x1
   replace x2 := below_cells hBB _ _ x2
   replace x3 := below_cells hBB _ _ x3
   replace x4 := below_cells hBB _ _ x4
   replace x5 := below_cells hBB _ _ x5
   replace x6 := below_cells hBB _ _ x6
   have hxm : x ∈ f.f3 := hx0 ▸ (by rw [List.getD_eq_getElem?_getD, List.getElem?_eq_getElem (by omega)]; exact List.getElem_mem _)
   have HXM := Lib.hid (HOK.out x hxm)
   have HX5 := Lib.hid h5
   have HX6 := Lib.hid h6
   have hlk := allE_length f sums nx HOK.out k (by omega)
   have hnk := allE_next f sums nx k
   have hae : allE f sums nx (k + 1) = ((allE f sums nx k).1 ++ edgE f sums (allE f sums nx k).2 x, nextE (allE f sums nx k).2 x) := by rw [hx0]; rfl
   have HAE := Lib.hid hae
   have hbn := below1 wr (.cells #[.int .i64 x.f0, .int .i64 x.f1, .int .i64 x.f2, .int .i64 x.f3, .int .i64 x.f4, .slice A5 x.f5.length c5, .slice A6 x.f6.length c6] 79)
   have hcd := below_cells hbn _ _ c0
   have hsl := blk_lt HTr.out.2.2
   have HSn := Lib.hid (show SceneAt (wr.alloc (.cells #[.int .i64 x.f0, .int .i64 x.f1, .int .i64 x.f2, .int .i64 x.f3, .int .i64 x.f4, .slice A5 x.f5.length c5, .slice A6 x.f6.length c6] 79)) sc f FA fc SA sums.length sl (allE f sums nx k).2 from (hbn.block _ (blk_lt HSr.out)).trans HSr.out)
   have HTn := Lib.hid (HTK.out.keep _ _ _ (Kept.of_below hbn) HTr.out)
   have HBn := Lib.hid (HBr.out.trans (hbn.mono (Nat.le_trans hbs (Nat.le_of_lt (blk_lt HSr.out)))))
   subst hCd
   clear hbn hx0 hxr hxm hae hBB h5 h6 hnl
   go_upto_region 5 with (fail)
   clear c0 x0 x1 x2 x3 x4 x5 x6
   have hnw := alloc_new wr (.cells #[.int .i64 x.f0, .int .i64 x.f1, .int .i64 x.f2, .int .i64 x.f3, .int .i64 x.f4, .slice A5 x.f5.length c5, .slice A6 x.f6.length c6] 79)
   obtain ⟨xb, hxb⟩ : ∃ xb, wr.heap.size = xb := ⟨_, rfl⟩
   rw [hxb] at hnw ⊢
   generalize World.alloc _ _ = Wn at hnw HSn HTn HBn hcd ⊢
   have z0 := blk_cell hnw 0
   have z1 := blk_cell hnw 1
   have z2 := blk_cell hnw 2
   have z3 := blk_cell hnw 3
   have z4 := blk_cell hnw 4
   have z5 := blk_cell hnw 5
   have z6 := blk_cell hnw 6
   simp only [List.getElem?_toArray, List.getElem?_cons_succ, List.getElem?_cons_zero] at z0 z1 z2 z3 z4 z5 z6
   clear hnw hxb
   go_wp2_with fail
   refine (told_any sc n0 bx N w0.heap.size _ HTK.out hbs f (some cd) fc SA sums sl _ _ x A5 c5 A6 c6 w0 Wn (HB.out.trans HBn.out) rfl HSn.out HTn.out h1 HXM.out (by omega) HTL.out HX5.out HX6.out HSM.out (by have := HNC.out; omega)).mono ?_
   rintro r w2 ⟨rfl, ht, hs, hb, _⟩
   have HT2 := Lib.hid ht
   have HS2 := Lib.hid hs
   have HB2 := Lib.hid (HBn.out.trans hb)
   clear ht hs hb hcd z0 z1 z2 z3 z4 z5 z6
   go_wp2_with fail
   go_roundw
   case rel => exact ⟨k + 1, by omega, by go_num, by rw [HAE.out]; exact HT2.out, by rw [HAE.out]; exact HS2.out, HB2.out⟩
   case measure => simp [intOf]; omega
  ·obtain rfl : k = nc := by omega
   go_wp2_with fail
   go_end0
   exact ⟨rfl, HNC.out ▸ HTr.out.1, HBr.out⟩
open Go.RowKit Go.Shelf Go.Proofs.YtcbcacbbnojdjaaGreatDoorW.PrintWords Go.Proofs.YtcbcacbbnojdjaaGreatDoor.PSolveFunctions
theorem Stay.trans {A B C : World} (h : Stay A B) (k : Stay B C) : Stay A C := fun j c t hj h1 h2 => k j c t (h j c t hj h1 h2) h1 h2
theorem stay_alloc (W : World) (o : Obj) : Stay W (W.alloc o) := fun k c t h _ _ => (Below.heap_alloc W o k (blk_lt h)).trans h
theorem stay_put {W : World} {l : Nat} {o o' : Obj} (hl : W.heap[l]? = some o) (hc : o.isCells = false) : Stay W (W.putObj l o') := fun k c t h _ _ => by
 have hne : l ≠ k := by rintro rfl; rw [hl] at h; injection h with h; subst h; cases hc
 exact (World.putObj_heap_other (by omega)).trans h
theorem put_below {n0 : Nat} {W : World} {l : Nat} {o o' : Obj} (hn : n0 ≤ l) (hl : W.heap[l]? = some o) : Below n0 W (W.putObj l o') :=
 (Below.refl n0 W).grown (grownBy_putObj' W l o') (by have := (Array.getElem?_eq_some_iff.1 hl).1; omega) (fun k e => by cases e; omega)
theorem rangeFunc_edges {g : Operand} {p : Tmp} (q : Tmp) {assign body : Code} {Q : Exit → Act → World → Prop} {a : Act} {w : World} {gf : Nat} {lb : Array Value} (hg : a.eval g = .func (.func gf) #[] lb) (eg : ∀ args w, (callFunc gf args).run Tryz.prog w = .ok (.enter gf args) w)
  (I : List Edg → World → Prop) (N n0 sc : Nat) (xs : List Edg) (hsc : sc < n0) (hn0 : n0 ≤ w.heap.size)
  (hIk : ∀ pre W W', Kept sc W W' → I pre W → I pre W') (hIp : ∀ pre W (k : Nat) (o o' : Obj), I pre W → w.heap.size ≤ k → W.heap[k]? = some o → o.isCells = false → I pre (W.putObj k o')) (h0 : I [] w)
  (hseq : ∀ (l : Nat) (T : List Edg → World → Prop) (W1 : World), Below w.heap.size w W1 → (∀ pre W W', Kept sc W W' → T pre W → T pre W') →
   (∀ pre (e : Edg) W, T pre W → pre.length < N → YieldAt Fence.wide 3 Tryz.prog l #[edgV e] W fun r W' => r = .returned (.bool true) ∧ T (pre ++ [e]) W' ∧ Below n0 W W' ∧ Stay W W') → T [] W1 →
   CallsIn Fence.wide 4 Tryz.prog gf (#[.func (.yield l) #[] #[]] ++ lb) W1 fun r W' => (∃ v, r = .returned v) ∧ T xs W')
  (hassign : ∀ (l : Nat) (e : Edg) (W : World) (K : Act → World → Prop), K { tmps := (a.tmps.setIfInBounds p (edgV e)).setIfInBounds q (.pointer (some ⟨W.heap.size, 0, none⟩)), defers := [] } (W.alloc (.cells #[.int .i64 e.f0, .int .i64 e.f1, .int .i64 e.f2] 144)) →
   assign.wpIn (Fence.wide.inRound l) 3 Tryz.prog (Exit.then K (fun _ _ _ => False)) { tmps := a.tmps.setIfInBounds p (edgV e), defers := [] } W)
  (hbody : ∀ (l : Nat) (pre : List Edg) (e : Edg) (W : World) (bx : Nat), I pre W → pre.length < N → w.heap.size ≤ bx → W.heap[bx]? = some (.cells #[.int .i64 e.f0, .int .i64 e.f1, .int .i64 e.f2] 144 (0, 0)) →
   body.wpIn (Fence.wide.inRound l) 3 Tryz.prog (fun ex _ W' => ex = .normal ∧ KeepsOthers W W' ∧ I (pre ++ [e]) W' ∧ Below n0 W W' ∧ Stay W W') { tmps := (a.tmps.setIfInBounds p (edgV e)).setIfInBounds q (.pointer (some ⟨bx, 0, none⟩)), defers := [] } W)
  (hdone : ∀ (D : Nat) (W : World), I xs W → w.heap.size ≤ D → W.heap[D]? = some (.deferred (some [])) → Q .normal { a with defers := { target := .collected D, args := #[] } :: a.defers } W) :
  (Code.rangeFunc g #[p] assign body).wpIn Fence.wide 5 Tryz.prog Q a w := by
 refine wpIn_rangeFunc ?_
 intro fn hfn
 have hro : Fence.wide.round = none := rfl
 rw [hro]
 obtain ⟨rec, hrec⟩ : ∃ rec : LoopState → Option Code → Loop, rec = fun st pe => { state := st, pending := pe, fn, tmps := a.tmps, params := #[p], assign, body, defers := w.heap.size } := ⟨_, rfl⟩
 obtain ⟨W1, hW1⟩ : ∃ W1, (w.alloc (.deferred (some []))).alloc (.loop (rec .ready none)) = W1 := ⟨_, rfl⟩
 have hL1 : W1.heap[w.heap.size + 1]? = some (.loop (rec .ready none)) := by
  rw [← hW1]; have := World.alloc_heap_new (w.alloc (.deferred (some []))) (.loop (rec .ready none)); rwa [World.size_alloc] at this
 have hK1 : W1.heap[w.heap.size]? = some (.deferred (some [])) := by
  rw [← hW1]; exact (Below.heap_alloc _ _ _ (by simp)).trans (World.alloc_heap_new w _)
 have hb1 : Below w.heap.size w W1 := by
  rw [← hW1]; exact ((Below.refl _ w).alloc (Nat.le_refl _) _).alloc (by simp) _
 have hI1 : I [] W1 := hIk _ _ _ (Kept.of_below hb1) h0
 refine ⟨w.heap.size + 1, [{ target := .collected w.heap.size, args := #[] }], W1, { target := .fn (.func gf) lb, args := #[.func (.yield (w.heap.size + 1)) #[] #[]] }, W1, gf,
  #[.func (.yield (w.heap.size + 1)) #[] #[]] ++ lb, W1, ?_, ?_, ?_, ?_, fun _ => by decide, ?_⟩
 ·rw [← hW1, hrec]; exact run_enterLoop_outer _ _ _ _ _
 ·simp only [resolve, hg]
  simp [go_sem]
 ·intro f' hf'; simp [Target.leads] at hf'; subst hf'; trivial
 ·simp [invoke, go_sem, eg]
 ·refine (hseq (w.heap.size + 1) (fun pre W => I pre W ∧ W.heap[w.heap.size + 1]? = some (.loop (rec .ready none)) ∧ W.heap[w.heap.size]? = some (.deferred (some []))) W1 hb1 ?_ ?_ ⟨hI1, hL1, hK1⟩).mono ?_
  ·rintro pre W W' hk ⟨hi, hl, hd⟩
   exact ⟨hIk _ _ _ hk hi, (hk.block _ (Array.getElem?_eq_some_iff.1 hl).1 (by omega)).trans hl, (hk.block _ (Array.getElem?_eq_some_iff.1 hd).1 (by omega)).trans hd⟩
  ·rintro pre e W ⟨hi, hl, hk⟩ hlen
   have hlt : w.heap.size + 1 < W.heap.size := (Array.getElem?_eq_some_iff.1 hl).1
   have hy := run_yield (P := Tryz.prog) (args := #[edgV e]) hl (by rw [hrec]; rfl)
   rw [hrec] at hy
   obtain ⟨Wa, hWa⟩ : ∃ Wa, W.alloc (.cells #[.int .i64 e.f0, .int .i64 e.f1, .int .i64 e.f2] 144) = Wa := ⟨_, rfl⟩
   have hba : Below W.heap.size W Wa := hWa ▸ below1 W _
   have hna : Wa.heap[W.heap.size]? = some (.cells #[.int .i64 e.f0, .int .i64 e.f1, .int .i64 e.f2] 144 (0, 0)) := hWa ▸ alloc_new W _
   have hsa : Stay W Wa := hWa ▸ stay_alloc W _
   have hla : Wa.heap[w.heap.size + 1]? = some (.loop (rec .ready none)) := (hba.block _ hlt).trans hl
   have hka : Wa.heap[w.heap.size]? = some (.deferred (some [])) := (hba.block _ (by omega)).trans hk
   have hia : I pre Wa := hIk _ _ _ (Kept.of_below hba) hi
   have htm : ((#[p] : Array Tmp).zip #[edgV e]).foldl (fun t (p, v) => t.setIfInBounds p v) a.tmps = a.tmps.setIfInBounds p (edgV e) := by simp
   rw [htm] at hy
   refine ⟨fn, _, assign, body, hy, roundIn_of_wpIn hfn (hassign _ e W _ ?_)⟩
   rw [hWa]
   refine ⟨_, run_beginRound hla (by rw [hrec]), ?_⟩
   have hlta : w.heap.size + 1 < Wa.heap.size := (Array.getElem?_eq_some_iff.1 hla).1
   obtain ⟨Wb, hWb⟩ : ∃ Wb, Wa.putObj (w.heap.size + 1) (.loop { rec .ready none with state := .busy }) = Wb := ⟨_, rfl⟩
   have hl2 : Wb.heap[w.heap.size + 1]? = some (.loop { rec .ready none with state := .busy }) := hWb ▸ World.putObj_heap_same hlta
   have hk2 : Wb.heap[w.heap.size]? = some (.deferred (some [])) := hWb ▸ (World.putObj_heap_other (by omega)).trans hka
   have hn2 : Wb.heap[W.heap.size]? = some (.cells #[.int .i64 e.f0, .int .i64 e.f1, .int .i64 e.f2] 144 (0, 0)) := hWb ▸ (World.putObj_heap_other (by omega)).trans hna
   have hi2 : I pre Wb := hWb ▸ hIp _ _ _ _ _ hia (by omega) hla rfl
   have hb2 : Below n0 W Wb := (hba.mono (by omega)).trans (hWb ▸ put_below (by omega) hla)
   have hs2 : Stay W Wb := hsa.trans (hWb ▸ stay_put hla rfl)
   rw [hWb]
   refine wpIn_mono (hbody (w.heap.size + 1) pre e Wb W.heap.size hi2 hlen (by omega) hn2) ?_
   rintro ex a3 W3 ⟨rfl, hk3, hi3, hb3, hs3⟩
   have hl3 := hk3.same _ _ hl2 rfl
   have hd3 := hk3.same _ _ hk2 rfl
   have hr := run_endRound (P := Tryz.prog) none hl3
   have hlt3 : w.heap.size + 1 < W3.heap.size := (Array.getElem?_eq_some_iff.1 hl3).1
   rw [hrec] at hr hl3
   refine ⟨_, _, hr, rfl, ⟨hIp _ _ _ _ _ hi3 (by omega) hl3 rfl, ?_, ?_⟩, hb2.trans (hb3.trans (put_below (by omega) hl3)), hs2.trans (hs3.trans (stay_put hl3 rfl))⟩
   ·rw [hrec]; exact World.putObj_heap_same hlt3
   ·exact (World.putObj_heap_other (by omega)).trans hd3
  ·rintro e W2 ⟨⟨v, rfl⟩, hi, hl, hk⟩
   refine ⟨none, _, by have := run_endLoop (P := Tryz.prog) hl (by rw [hrec]; simp); rw [hrec] at this; exact this, hdone _ _ (hIp _ _ _ _ _ hi (by omega) hl rfl) (Nat.le_refl _) ((World.putObj_heap_other (by omega)).trans hk)⟩
end Go.Proofs.YtcbcacbbnojdjaaGreatDoor
