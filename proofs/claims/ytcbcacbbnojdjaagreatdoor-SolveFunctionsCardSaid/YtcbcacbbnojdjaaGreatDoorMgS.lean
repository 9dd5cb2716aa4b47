/-
 Part S of what the law's proof needs: walks of the program's functions and the plain laws of what they tell. No condition.
-/
import Derived.Test.YtcbcacbbnojdjaaGreatDoorMgQ
import Derived.Test.YtcbcacbbnojdjaaGreatDoorMgR
import Derived.Test.YtcbcacbbnojdjaaGreatDoorMgP
namespace Go.Proofs.YtcbcacbbnojdjaaGreatDoor
open Go.RowKit Go.Maps Go.Proofs.YtcbcacbbnojdjaaGreatDoorW.PrintWords Go.Proofs.YtcbcacbbnojdjaaGreatDoorW.PrintLast Go.Proofs.YtcbcacbbnojdjaaGreatDoor.PSolveFunctions
set_option linter.unusedVariables false
set_option linter.unusedSimpArgs false
def funcPost (f : Fun) (E : List Edg) (w : World) (e : Ending) (w' : World) : Prop :=
 ∃ b esc hb ob bs hs rows, e = .returned (.tuple #[.slice (some ⟨b, 0, none⟩) (locsF f) (locsF f), .agg #[.slice (some ⟨hb, 0, none⟩) f.f0.toNat f.f0.toNat, .slice (some ⟨ob, 0, none⟩) f.f0.toNat f.f0.toNat], .int .i64 0]) ∧ w.heap.size ≤ b ∧ BoolsAt w' b esc ∧ FuncIs f E esc hs rows ∧ SumAt w' w.heap.size hb ob f.f1.toNat f.f0.toNat bs hs rows ∧ Below w.heap.size w w'
theorem one_row (x : Int) (W : World) : (Kd.int .i64).C (W.alloc (.cells #[.int .i64 x] 3)) (some ⟨W.heap.size, 0, none⟩) 1 [x] := by
 have h : (Kd.int .i64).R 3 (W.alloc (.cells #[.int .i64 x] 3)) W.heap.size (fun _ => True) (.slice (some ⟨W.heap.size, 0, none⟩) 1 1) [x] :=
  ⟨fun _ _ => trivial, OwnRow.lit (ps := [x]) (inner := [.int .i64 x]) W W.heap.size ⟨rfl, fun j q hq => by
   have hj := (List.getElem?_eq_some_iff.1 hq).1
   obtain rfl : j = 0 := by simp at hj; exact hj
   obtain rfl : x = q := by simpa using hq
   rfl⟩ (Nat.le_refl _) (by simp)⟩
 exact (Kd.R_reads' h).2.2
theorem add_at (rb i : Nat) : Addr.add ⟨rb, 0, none⟩ i = ⟨rb, i, none⟩ := by
 simp [Addr.add]
 exact fun e => e.symm
theorem SumAt.drewn {W : World} {base hb ob r p : Nat} {bs : List Nat} {hs : List Int} {rows : List (List Int)} (h : SumAt W base hb ob r p bs hs rows) : SumAt W.drew base hb ob r p bs hs rows := ⟨h.hn, h.ho, h.lb, h.rw_, h.nd, h.nh, h.l0, h.l1, h.l2⟩
theorem SumAt.apart {W : World} {base hb ob r p sb : Nat} {bs : List Nat} {hs : List Int} {rows : List (List Int)} {cs : Array Value} (h : SumAt W base hb ob r p bs hs rows) (hs : W.heap[sb]? = some (.cells cs 34 (0, 0))) : sb ≠ hb ∧ ∀ i, i < rows.length → sb ≠ bs.getD i 0 := by
 refine ⟨?_, fun i hi => ?_⟩
 ·rintro rfl
  have h2 : W.heap[sb]? = _ := h.hn
  rw [hs] at h2
  injection h2 with h2
  injection h2 with _ h2 _
  exact absurd h2 (by decide)
 ·intro e
  have h2 : W.heap[bs.getD i 0]? = _ := h.rw_ i hi
  rw [← e, hs] at h2
  injection h2 with h2
  injection h2 with _ h2 _
  exact absurd h2 (by decide)
theorem TellsAt.below {w w1 : World} (h : TellsAt w) (hb : Below w.heap.size w w1) : TellsAt w1 := fun k hk => ⟨below_cells hb _ _ (h k hk).1, below_cells hb _ _ (h k hk).2⟩
set_option maxRecDepth 100000 in
set_option maxHeartbeats 12800000 in
theorem func_ok (G : Int) (A : Option Addr) (c : Nat) (fs : List Fun) (fi : Nat) (SA : Option Addr) (sums : List Smm) (sl : Nat) (w : World) (hC : k66.C w A fs.length fs) (hcap : fs.length ≤ c) (hS : k34.C w SA sums.length sums) (hscap : sums.length ≤ sl) (hlen : fs.length ≤ 2147483647)
  (hcode : ∀ f ∈ fs, f.f3.length ≤ 2147483646 ∧ ∀ x ∈ f.f3, x.f5.length ≤ 2147483647 ∧ x.f6.length ≤ 2147483647) (hsl : sums.length = fs.length) (hsm : ∀ s ∈ sums, s.f0.length ≤ 2147483646 ∧ ∀ r ∈ s.f1, r.length ≤ 2147483647) (hfi : fi < fs.length)
  (f : Fun) (hf : f = fs.getD fi zF) (hfo : FunOk G fs f) (hfit : FitAll fs sums f) (htl : TellsAt w) :
  Calls Tryz.prog 11 #[.agg #[.int .i64 G, .slice A fs.length c], .int .i64 fi, .slice SA sums.length sl] w (funcPost f (allE f sums (1 + f.f1 + f.f2) f.f3.length).1 w) := by
 have hH := hfo.hd
 have hr0 := hH.r0; have hr1 := hH.r1; have hp0 := hH.p0; have h8 := hH.p1
 have hp1 : f.f0 ≤ f.f2 ∧ f.f0 ≤ 8 := by split at h8 <;> omega
 have hv := hH.v1
 have hn0 := hH.n0; have hn1 := hH.n1
 clear h8
 have hio : ∀ x ∈ f.f3, InsOk sums x := by
  intro x hx
  obtain ⟨k, hk, rfl⟩ := List.getElem_of_mem hx
  have hI := hfo.ins k hk
  have hcl := hfo.cal k hk
  rw [List.getD_eq_getElem?_getD, List.getElem?_eq_getElem hk] at hI hcl
  exact insOk_of2 hI hH hcl hsl (hfit _ hx)
 have hEok := all_ok2 hfo hsl hfit f.f3.length (Nat.le_refl _)
 have hEl := allE_length f sums (1 + f.f1 + f.f2) hio f.f3.length (Nat.le_refl _)
 have hnl := calls_news f.f3 f.f3.length
 have hloc : (locsF f : Int) = 1 + f.f1 + f.f2 + newsTo f.f3 f.f3.length := by unfold locsF; omega
 have HSL := Lib.hid hsl
 have HC := Lib.hid hC
 have HS := Lib.hid hS
 have HF := Lib.hid hf
 have HEOK := Lib.hid hEok
 have HHH := Lib.hid hH
 have HED := Lib.hid (fun (W : World) (hC : k66.C W A fs.length fs) (hS : k34.C W SA sums.length sums) (htl : TellsAt W) => (edges_all G A c fs fi SA sums sl W hC hcap hS hscap hlen hcode hsl hsm ⟨by omega, by omega⟩ f (by rw [Int.toNat_natCast]; exact hf) hfo htl).mono (fun e w' h => by
  rcases h with ⟨_, h⟩ | ⟨hn, _⟩
  ·exact h
  ·exact absurd hfit hn))
 obtain ⟨E, hE⟩ : ∃ E, (allE f sums (1 + f.f1 + f.f2) f.f3.length).1 = E := ⟨_, rfl⟩
 rw [hE] at HEOK HED hEl ⊢
 clear hE
 have HTL := Lib.hid htl
 clear hC hS hf hfit hH hEok hio hsm hcode htl hfo hsl
 go_enter Tryz.func11, Tryz.ntmps11
 go_upto_region 1 with (fail)
 have hb0 := (below1 w (.cells #[.int .i64 G, .slice A fs.length c] 24)).alloc (by simp) (.cells #[.slice none 0 0, .slice none 0 0] 34)
 have f1 := alloc_first w #[.int .i64 G, .slice A fs.length c] 24 (.cells #[.slice none 0 0, .slice none 0 0] 34)
 have f2 := alloc_second w (.cells #[.int .i64 G, .slice A fs.length c] 24) #[.slice none 0 0, .slice none 0 0] 34
 have HLOC := Lib.hid hloc
 have HEL := Lib.hid hEl
 have HNL := Lib.hid hnl
 clear hloc hEl hnl
 have HED1 := Lib.hid (HED.out _ (Kd.C_below HC.out hb0) (Kd.C_below HS.out hb0) (HTL.out.below hb0))
 obtain ⟨N, hN⟩ : ∃ N, w.heap.size = N := ⟨_, rfl⟩
 have HN := Lib.hid hN
 rw [hN] at hb0 f1 f2 ⊢
 clear hN HED
 generalize World.alloc _ _ = W1 at hb0 f1 f2 HED1 ⊢
 have HB1 := Lib.hid hb0
 have F1 := Lib.hid f1
 have F2 := Lib.hid f2
 clear hb0 f1 f2
 have c0 := blk_cell F1.out 0
 have c1 := blk_cell F1.out 1
 simp only [List.getElem?_toArray, List.getElem?_cons_succ, List.getElem?_cons_zero] at c0 c1
 go_wp2_with fail
 refine HED1.out.mono ?_
 rintro e W2 ⟨ve, rfl, hre, hb⟩
 obtain ⟨Ae, ce, hce, hve⟩ : ∃ Ae ce, E.length ≤ ce ∧ ve = Value.slice Ae E.length ce := by
  obtain ⟨A', c', h1, h2⟩ := hre.2.slice_
  exact ⟨A', c', h2, h1⟩
 subst hve
 have HCE0 := Lib.hid hce
 clear hce
 have hCE : k144.C W2 Ae E.length E := (Kd.R_reads' hre).2.2
 have f1 := (hb.block _ (blk_lt F1.out)).trans F1.out
 have f2 := (hb.block _ (blk_lt F2.out)).trans F2.out
 have HB2 := Lib.hid (HB1.out.trans (hb.mono (by have := blk_lt F2.out; omega)))
 have G1 := Lib.hid f1
 have G2 := Lib.hid f2
 have HCE := Lib.hid hCE
 clear hre hb f1 f2 hCE HED1 HB1 F1 F2 c0 c1
 have c1 := blk_cell G1.out 1
 simp only [List.getElem?_toArray, List.getElem?_cons_succ, List.getElem?_cons_zero] at c1
 obtain ⟨ad, A3, c3, hA, e0, e1, e2, e3, hc3, hC3⟩ := at_T66 (Kd.C_below HC.out (HN.out ▸ HB2.out)) (fi : Int) (by omega) (by omega)
 have hf' : rd_T66 fs (fi : Int) = f := by rw [rd_T66, Int.toNat_natCast]; exact HF.out.symm
 rw [hf', Int.toNat_natCast] at e0 e1 e2 e3
 rw [hf'] at hc3 hC3
 subst hA
 have HC3 := Lib.hid hC3
 clear hf' hC3
 go_upto_region 5 with (fail)
 have hsz2 : N + 1 < W2.heap.size := blk_lt G2.out
 have hb3 := below1 W2 (.cells #[.int .i64 f.f0, .int .i64 f.f1, .int .i64 f.f2, .slice A3 f.f3.length c3] 66)
 have hn3 := alloc_new W2 (.cells #[.int .i64 f.f0, .int .i64 f.f1, .int .i64 f.f2, .slice A3 f.f3.length c3] 66)
 have hC3 := Kd.C_below HC3.out hb3
 have hE3 := Kd.C_below HCE.out hb3
 have hG3 := (hb3.block _ (blk_lt G2.out)).trans G2.out
 have hB3 := HB2.out.trans (hb3.mono (by omega))
 obtain ⟨fb, hfb⟩ : ∃ fb, W2.heap.size = fb := ⟨_, rfl⟩
 rw [hfb] at hn3 hsz2 ⊢
 generalize World.alloc _ _ = W3 at hb3 hn3 hC3 hE3 hG3 hB3 ⊢
 clear hb3 hfb c1 e0 e1 e2 e3 HC3 HCE G1 G2 HB2
 have hL := locs_any f A3 c3 W3.drew (show k79.C W3.drew A3 f.f3.length f.f3 from hC3) hc3 ⟨hr0, hr1⟩ ⟨by omega, hv⟩ (by omega)
 have HLC := Lib.hid hL
 have HFB := Lib.hid hn3
 have HC3 := Lib.hid hC3
 have HE3 := Lib.hid hE3
 have HG3 := Lib.hid hG3
 have HB3 := Lib.hid hB3
 clear hL hn3 hC3 hE3 hG3 hB3
 have c0 := blk_cell HFB.out 0
 have c1 := blk_cell HFB.out 1
 have c2 := blk_cell HFB.out 2
 have c3' := blk_cell HFB.out 3
 simp only [List.getElem?_toArray, List.getElem?_cons_succ, List.getElem?_cons_zero] at c0 c1 c2 c3'
 have y0 := c0
 have y1 := c1
 have y2 := c2
 have y3 := c3'
 go_region_held3 (fun w' => w'.cell? ⟨fb, 0, none⟩ = some (.int .i64 f.f0) ∧ w'.cell? ⟨fb, 1, none⟩ = some (.int .i64 f.f1) ∧ w'.cell? ⟨fb, 2, none⟩ = some (.int .i64 f.f2) ∧ w'.cell? ⟨fb, 3, none⟩ = some (.slice A3 f.f3.length c3))
  (first | (go_keep; done) | exact ⟨k0, k1, k2, k3⟩)
  (first | (go_at_call 43; refine HLC.out.mono ?_; rintro e w4 ⟨rfl, hb4⟩; have k0 := below_cells hb4 _ _ y0; have k1 := below_cells hb4 _ _ y1; have k2 := below_cells hb4 _ _ y2; have k3 := below_cells hb4 _ _ y3; have HB4 := Lib.hid hb4; clear hb4))
 obtain ⟨p, hp⟩ : ∃ p : Nat, f.f0 = p := ⟨f.f0.toNat, by omega⟩
 obtain ⟨r, hr⟩ : ∃ r : Nat, f.f1 = r := ⟨f.f1.toNat, by omega⟩
 have hp8 : p ≤ 8 := by omega
 have hr4 : r ≤ 4 := by omega
 have hrn : 1 + r ≤ locsF f := by have := HLOC.out; omega
 have hln : locsF f ≤ 4400 := by have := HLOC.out; have := HNL.out; omega
 have hpn : 1 + r + p ≤ locsF f := by have := HLOC.out; omega
 have hb4 : Below W3.heap.size W3 w4 := Below.trans (below_drew (Below.refl _ W3)) HB4.out
 have hs3 := hb4.size
 have hb5 := below1 w4 (.cells #[.int .i64 (locsF f), .int .i64 f.f1, .slice Ae E.length ce] 89)
 have hn5 := alloc_new w4 (.cells #[.int .i64 (locsF f), .int .i64 f.f1, .slice Ae E.length ce] 89)
 have h35 := hb4.trans (hb5.mono hs3)
 have hF5 := (h35.block _ (blk_lt HFB.out)).trans HFB.out
 have hG5 := (h35.block _ (blk_lt HG3.out)).trans HG3.out
 have hE5 := Kd.C_below HE3.out h35
 have hC5 := Kd.C_below HC3.out h35
 have hB5 := HB3.out.trans (h35.mono (by have := blk_lt HFB.out; omega))
 obtain ⟨g, hg⟩ : ∃ g, w4.heap.size = g := ⟨_, rfl⟩
 have hfg : fb < g := by have := blk_lt HFB.out; omega
 rw [hg] at hn5 ⊢
 clear k0 k1 k2 k3 y0 y1 y2 y3 c0 c1 c2 c3' HLC HB4 hb4 hb5 h35 hg HFB HG3 HE3 HC3 HB3 hs3
 rename_i hHeld
 clear hHeld
 rw [hr] at hF5 hn5 hG5 hE5 hC5 hB5 ⊢
 rw [hp] at hF5 ⊢
 generalize World.alloc _ _ = W5 at hn5 hF5 hG5 hE5 hC5 hB5 ⊢
 have HNET := Lib.hid (show NetAt W5 g (locsF f) r Ae E ce from hn5)
 have HF5 := Lib.hid hF5
 have HG5 := Lib.hid hG5
 have HE5 := Lib.hid hE5
 have HC5 := Lib.hid hC5
 have HB5 := Lib.hid hB5
 have HPR := Lib.hid (show f.f0 = p ∧ f.f1 = r ∧ 1 + r + (p : Int) ≤ 1 + f.f1 + f.f2 ∧ f.f2 ≤ 255 from ⟨hp, hr, by omega, hv⟩)
 clear hn5 hF5 hG5 hE5 hC5 hB5 hp hr hr0 hr1 hp0 hp1 hv hn0 hn1
 have c1 := blk_cell HF5.out 1
 simp only [List.getElem?_toArray, List.getElem?_cons_succ, List.getElem?_cons_zero] at c1
 have hmk := print_make_of 32 31 (.slice none 0 0) 24 Tryz.underlying32 info31 rfl (by decide) r (by omega)
 go_upto_region 7 with (fail)
 have hb6 := below1 W5 (.cells (madeCells #[Value.slice none 0 0] r) 31)
 have hn6 : ResAt (W5.alloc (.cells (madeCells #[Value.slice none 0 0] r) 31)) N W5.heap.size r [] [] := ⟨by rw [made_rows]; simpa using alloc_new W5 _, rfl, fun i hi => absurd hi (by simp)⟩
 obtain ⟨rb, hrb⟩ : ∃ rb, W5.heap.size = rb := ⟨_, rfl⟩
 have HRB := Lib.hid hrb
 have hgr : g < rb := by have := blk_lt HNET.out; omega
 rw [hrb] at hb6 hn6 ⊢
 clear hrb hmk c1
 generalize World.alloc _ _ = W6 at hb6 hn6 ⊢
 have HB6 := Lib.hid hb6
 have HN6 := Lib.hid hn6
 clear hb6 hn6
 go_wp2_with fail
 go_loopw [49] (fun i wr => ∃ (j : Nat) (vs : List Value) (ress : List (List Int)), j ≤ r ∧ i = .int .i64 j ∧ vs.length = j ∧ ResAt wr N rb r vs ress ∧ (∀ k, k < ress.length → IsFrom (locsF f) E [1 + (k : Int)] (ress.getD k [])) ∧ Below rb W5 wr) (fun i _ => r - (intOf i).toNat)
 case atStart => exact ⟨0, [], [], by omega, rfl, rfl, HN6.out, fun k hk => absurd hk (by simp), HB6.out⟩
 case round =>
  clear HN6 HB6
  obtain ⟨j, vs, ress, hj, rfl, hvl, hR, hI, hB⟩ := hrel
  have HR := Lib.hid hR
  have HI := Lib.hid hI
  have HB := Lib.hid hB
  have HVL := Lib.hid hvl
  clear hR hI hB hvl
  by_cases hlt : j < r
  ·have h5r : Below W5.heap.size W5 wr := HRB.out ▸ HB.out
   have hbA := below1 wr (.cells #[.int .i64 (1 + (j : Int))] 3)
   have h5A := h5r.trans (hbA.mono h5r.size)
   have HFW := fewest_any g (locsF f) r Ae ce E (some ⟨wr.heap.size, 0, none⟩) 1 [1 + (j : Int)] (wr.alloc (.cells #[.int .i64 (1 + (j : Int))] 3)) ((h5A.block _ (blk_lt HNET.out)).trans HNET.out) (Kd.C_below HE5.out h5A) HCE0.out (one_row _ _) (Nat.le_refl _) HEOK.out (fun x hx => by
    obtain rfl := List.mem_singleton.1 hx
    omega) (by omega) (by omega) (by have := HEL.out; have := HHH.out.n1; omega) (by simp)
   simp only [List.length_singleton] at HFW
   have HFV := Lib.hid HFW
   clear HFW
   have HA := Lib.hid hbA
   clear hbA h5A h5r
   go_wp2_with fail
   refine HFV.out.mono ?_
   rintro e w7 ⟨v, l, rfl, hl, hrv, hb7⟩
   obtain ⟨Ah, ch, hhc, hve⟩ : ∃ Ah ch, l.length ≤ ch ∧ v = Value.slice Ah l.length ch := by
    obtain ⟨A', c', h1, h2⟩ := hrv.2.slice_
    exact ⟨A', c', h2, h1⟩
   subst hve
   have HHC := Lib.hid hhc
   have HL := Lib.hid hl
   have hb8 := HA.out.trans (hb7.mono HA.out.size)
   have hrs : N ≤ wr.heap.size := by
    have h1 := blk_lt HR.out.hb
    omega
   have HB8 := Lib.hid hb8
   have HV := Lib.hid (Kd.R_lower hrv (Nat.le_trans hrs HA.out.size))
   clear hhc hl hb7 hb8 hrv HFV HA
   have hz := HR.out.below HB8.out
   have z0 := blk_frozen hz.hb j
   have g0 := blk_cell hz.hb j
   rw [List.getElem?_toArray, List.getElem?_append_right (by have := HVL.out; omega), List.getElem?_replicate, if_pos (by have := HVL.out; omega)] at g0
   clear hz
   go_wp2_with fail
   go_roundw
   case rel =>
    have hm := HR.out.more HB8.out HV.out (by have := HVL.out; omega)
    rw [HVL.out] at hm
    refine ⟨j + 1, vs ++ [Value.slice Ah l.length ch], ress ++ [l], by omega, by go_num, by simp [HVL.out], hm, fun k hk => ?_, ?_⟩
    ·have e1 := HR.out.hl
     have e2 := HVL.out
     rw [List.length_append, List.length_singleton] at hk
     by_cases hkl : k < ress.length
     ·rw [show (ress ++ [l]).getD k [] = ress.getD k [] by rw [List.getD_eq_getElem?_getD, List.getD_eq_getElem?_getD, List.getElem?_append_left hkl]]
      exact HI.out k hkl
     ·obtain rfl : k = ress.length := by omega
      rw [show (ress ++ [l]).getD ress.length [] = l by simp, show ress.length = j by omega]
      exact HL.out
    ·exact (HB.out.trans (HB8.out.mono (by have := blk_lt HR.out.hb; omega))).setCell (p := ⟨rb, j, none⟩) (Nat.le_refl _) _
   case measure => simp [intOf]; omega
  ·obtain rfl : r = j := by omega
   clear hlt hj
   have h5r : Below W5.heap.size W5 wr := HRB.out ▸ HB.out
   have hrl : ress.length = r := by rw [← HR.out.hl]; exact HVL.out
   have HRW := Lib.hid (HR.out.rows (by omega))
   have HHP := heap_any g (locsF f) r Ae ce E (some ⟨rb, 0, none⟩) r ress wr ((h5r.block _ (blk_lt HNET.out)).trans HNET.out) (Kd.C_below HE5.out h5r) HCE0.out HRW.out (fun l hl => by
    obtain ⟨k, hk, rfl⟩ := List.getElem_of_mem hl
    have := (HI.out k hk).len
    rwa [List.getD_eq_getElem?_getD, List.getElem?_eq_getElem hk] at this) (by omega) HEOK.out (by omega) (by omega) (by omega) (by have := HEL.out; have := HHH.out.n1; omega)
   rw [hrl] at HHP
   have HHQ := Lib.hid HHP
   clear HHP
   have HRL := Lib.hid hrl
   clear hrl
   have hN0 : N ≤ W5.heap.size := by rw [HRB.out]; omega
   have HBN := Lib.hid (HB5.out.trans (h5r.mono hN0))
   have HF6 := Lib.hid ((h5r.block _ (blk_lt HF5.out)).trans HF5.out)
   have HG6 := Lib.hid ((h5r.block _ (blk_lt HG5.out)).trans HG5.out)
   have HCA := Lib.hid (Kd.C_below HC5.out h5r)
   clear h5r hN0 HB HVL HNET HE5 HC5 HF5 HG5 HB5
   go_wp2_with fail
   refine HHQ.out.mono ?_
   rintro e w7 ⟨b, esc, h, vh, rfl, hHI, hbs, hBo, hvh, hb7⟩
   obtain ⟨Ah, ch, hhc, hve⟩ : ∃ Ah ch, h.length ≤ ch ∧ vh = Value.slice Ah h.length ch := by
    obtain ⟨A', c', h1, h2⟩ := hvh.2.slice_
    exact ⟨A', c', h2, h1⟩
   have hhl := hHI.frm.len
   rw [hhl] at hve hhc
   subst hve
   have HHI := Lib.hid hHI
   have hF7 := (hb7.block _ (blk_lt HF6.out)).trans HF6.out
   have HG7 := Lib.hid ((hb7.block _ (blk_lt HG6.out)).trans HG6.out)
   have HBO := Lib.hid hBo
   have HBS := Lib.hid hbs
   have hNr1 : N + 1 < wr.heap.size := blk_lt HG6.out
   have hNr : N ≤ wr.heap.size := by omega
   have HB7 := Lib.hid (HBN.out.trans (hb7.mono hNr))
   have HR7 := Lib.hid (Kd.C_below HRW.out hb7)
   have HCD := Lib.hid (Kd.C_below HCA.out hb7)
   have hC7 := (Kd.R_reads' hvh).2.2
   rw [hhl] at hC7
   have HC7 := Lib.hid hC7
   have HHL := Lib.hid hhl
   have HF7 := Lib.hid hF7
   clear hHI hbs hBo hvh hb7 hC7 hhl hF7 HHQ HRW HCA HBN HF6 HG6 hhc
   have c0 := blk_cell HF7.out 0
   have c1 := blk_cell HF7.out 1
   have c2 := blk_cell HF7.out 2
   have c3' := blk_cell HF7.out 3
   simp only [List.getElem?_toArray, List.getElem?_cons_succ, List.getElem?_cons_zero] at c0 c1 c2 c3'
   have HLW := Lib.hid (lowest_any p r f.f2 A3 f.f3.length c3 w7 hp8 hr4)
   go_wp2_with fail
   refine HLW.out.mono ?_
   rintro e w8 ⟨hb, ob, bs, rfl, hS, hb8⟩
   clear c0 c1 c2 c3' HLW
   go_upto_region 14 with (fail)
   have hb9 := below1 w8 (.cells #[hdr p hb, hdr p ob] 34)
   have hn9 := alloc_new w8 (.cells #[hdr p hb, hdr p ob] 34)
   have hS9 := hS.below hb9
   have hB9 := hb8.trans (hb9.mono hb8.size)
   obtain ⟨sb, hsb⟩ : ∃ sb, w8.heap.size = sb := ⟨_, rfl⟩
   obtain ⟨n5, hn5⟩ : ∃ n5, w7.heap.size = n5 := ⟨_, rfl⟩
   have h58 : n5 ≤ sb := by rw [← hn5, ← hsb]; exact hb8.size
   have hf5 : fb < n5 := by rw [← hn5]; exact blk_lt HF7.out
   have hg5 : N + 1 < n5 := by omega
   rw [hsb] at hn9 ⊢
   rw [hn5] at hS9 hB9
   clear hb8 hb9 hsb hS
   have HSZ := Lib.hid hn5
   clear hn5
   generalize World.alloc _ _ = W9 at hn9 hS9 hB9 ⊢
   have HN9 := Lib.hid hn9
   have HS9 := Lib.hid hS9
   have HB9 := Lib.hid hB9
   have hF9 := (hB9.block _ hf5).trans HF7.out
   have c0 := blk_cell hF9 0
   simp only [List.getElem?_toArray, List.getElem?_cons_succ, List.getElem?_cons_zero] at c0
   clear hn9 hS9 hB9 hF9
   go_wp2_with fail
   go_loopw [71] (fun i wr => ∃ (j : Nat) (hs : List Int) (rows : List (List Int)), j ≤ p ∧ i = .int .i64 j ∧ FillAt p r h ress j hs rows ∧ SumAt wr n5 hb ob r p bs hs rows ∧ wr.heap[sb]? = some (.cells #[hdr p hb, hdr p ob] 34 (0, 0)) ∧ Below n5 w7 wr) (fun i _ => p - (intOf i).toNat)
   case atStart => exact ⟨0, _, _, by omega, rfl, FillAt.start _ _ _ _, HS9.out, HN9.out, HB9.out⟩
   case round =>
    clear HN9 HS9 HB9 c0
    obtain ⟨j, hs, rows, hj, rfl, hfi, hS, hn, hB⟩ := hrel
    have HFI := Lib.hid hfi
    have HS := Lib.hid hS
    have HSB := Lib.hid hn
    have HB := Lib.hid hB
    clear hfi hS hn hB
    by_cases hlt : j < p
    ·have hF := (HB.out.block _ hf5).trans HF7.out
     have HFB := Lib.hid hF
     have c0 := blk_cell hF 0
     have c1 := blk_cell hF 1
     have c2 := blk_cell hF 2
     have c3' := blk_cell hF 3
     simp only [List.getElem?_toArray, List.getElem?_cons_succ, List.getElem?_cons_zero] at c0 c1 c2 c3'
     have hBr : Below w7.heap.size w7 wr := by rw [HSZ.out]; exact HB.out
     have hV := variable_any f A3 c3 (j : Int) wr (Kd.C_below HCD.out hBr) hc3 ⟨HHH.out.r0, HHH.out.r1⟩ HHH.out.v1 (by have := HPR.out; omega)
     rw [HPR.out.1, HPR.out.2.1, show 1 + (r : Int) + (j : Int) = ((1 + r + j : Nat) : Int) by omega] at hV
     obtain ⟨k, hk⟩ : ∃ k, k = 1 + r + j := ⟨_, rfl⟩
     have hkn : k < locsF f := by omega
     rw [← hk] at hV
     have HK := Lib.hid hk
     have HV := Lib.hid hV
     clear hV hBr hF hk
     go_wp2_with fail
     refine HV.out.mono ?_
     rintro e w10 ⟨rfl, hb10⟩
     have hsw := HB.out.size
     rw [HSZ.out] at hsw
     have HS2 := Lib.hid (HS.out.below hb10)
     have HSB2 := Lib.hid ((hb10.block _ (blk_lt HSB.out)).trans HSB.out)
     have HB2 := Lib.hid (HB.out.trans (hb10.mono hsw))
     clear c0 c1 c2 c3' HV HS HSB HB HFB hb10 hsw
     have hBr : Below w7.heap.size w7 w10 := by rw [HSZ.out]; exact HB2.out
     obtain ⟨adh, hA, hv⟩ := Kd.at_int (Kd.C_below HC7.out hBr) (k : Int) (by omega) (by omega)
     obtain ⟨x, hx⟩ : ∃ x, h.getD k 9 = x := ⟨_, rfl⟩
     have hrd : rd h (k : Int) = x := by unfold rd; rw [Int.toNat_natCast, ← getD_90 HHL.out hkn]; exact hx
     rw [hrd, Int.toNat_natCast] at hv
     have HX := Lib.hid hx
     subst hA
     clear hrd hx hBr
     have c0 := blk_cell HSB2.out 0
     have z0 := blk_frozen HS2.out.hn j
     have g0 := HS2.out.hn.at_ (i := j) (by rw [HFI.out.hl]; exact hlt)
     simp only [List.getElem?_toArray, List.getElem?_cons_succ, List.getElem?_cons_zero] at c0
     go_upto_region 18 with (fail)
     go_still_tail 9, (by kernel_rfl)
     change wpList _ _ _ _ _ w10.drew
     have HS3 := Lib.hid HS2.out.drewn
     have HSB3 := Lib.hid (show w10.drew.heap[sb]? = _ from HSB2.out)
     have HB3 := Lib.hid (below_drew HB2.out)
     have c1 : w10.drew.cell? ⟨sb, 0, none⟩ = _ := c0
     have z1 : w10.drew.frozen? ⟨hb, j, none⟩ = _ := z0
     have g1 : w10.drew.cell? ⟨hb, j, none⟩ = _ := g0
     have hv1 : w10.drew.cell? (adh.add k) = _ := hv
     clear HS2 HSB2 HB2 c0 z0 g0 hv
     generalize w10.drew = w11 at HS3 HSB3 HB3 c1 z1 g1 hv1 ⊢
     go_upto_region 19 with (fail)
     rw [show (if x < 0 then (0 : Int) else x) = max x 0 by split <;> omega]
     have hap := HS3.out.apart HSB3.out
     have hS4 := HS3.out.setH j (max x 0)
     have hs4 := (Below.heap_setCell w11 ⟨hb, j, none⟩ (.int .i64 (max x 0)) sb hap.1).trans HSB3.out
     have hB4 := HB3.out.setCell (p := ⟨hb, j, none⟩) HS3.out.l0 (.int .i64 (max x 0))
     have hR0 := HFI.out.heap hlt
     rw [← HK.out, HX.out] at hR0
     obtain ⟨m, hm⟩ : ∃ m, max x 0 = m := ⟨_, rfl⟩
     rw [hm] at hS4 hs4 hB4 hR0 ⊢
     clear hap hm c1 z1 g1 hv1 HS3 HSB3 HB3
     generalize World.setCell _ _ _ = w12 at hS4 hs4 hB4 ⊢
     have HS4 := Lib.hid hS4
     have HSB4 := Lib.hid hs4
     have HB4 := Lib.hid hB4
     have HR0 := Lib.hid hR0
     clear hS4 hs4 hB4 hR0
     go_wp2_with fail
     go_loopw [88] (fun u wr => ∃ (i : Nat) (rows' : List (List Int)), i ≤ r ∧ u = .int .i64 i ∧ RowTo p r h ress j i (hs.set j m) rows' ∧ SumAt wr n5 hb ob r p bs (hs.set j m) rows' ∧ wr.heap[sb]? = some (.cells #[hdr p hb, hdr p ob] 34 (0, 0)) ∧ Below n5 w7 wr) (fun u _ => r - (intOf u).toNat)
     case atStart => exact ⟨0, rows, by omega, rfl, HR0.out, HS4.out, HSB4.out, HB4.out⟩
     case round =>
      clear HS4 HSB4 HB4 HR0
      obtain ⟨i, rows', hi, rfl, hR1, hS, hn, hB⟩ := hrel
      have HRT := Lib.hid hR1
      have HS := Lib.hid hS
      have HSB := Lib.hid hn
      have HB := Lib.hid hB
      clear hR1 hS hn hB
      by_cases hli : i < r
      ·have hBr : Below w7.heap.size w7 wr := by rw [HSZ.out]; exact HB.out
       have hrw : j < rows'.length := by rw [HRT.out.f.wl]; exact hlt
       obtain ⟨rad, A0, cc, hA, h0, hcc, hC⟩ := at_L1 (Kd.C_below HR7.out hBr) (i : Int) (by omega) (by rw [HRL.out]; omega)
       injection hA with hA
       subst hA
       have hrr : rd_L1 ress (i : Int) = ress.getD i [] := by rw [rd_L1, Int.toNat_natCast]
       have hrl : (ress.getD i []).length = locsF f := (HI.out i (by rw [HRL.out]; exact hli)).len
       rw [hrr, hrl] at h0 hcc hC
       rw [Int.toNat_natCast, add_at] at h0
       obtain ⟨adh, hA, hv⟩ := Kd.at_int hC (k : Int) (by omega) (by omega)
       obtain ⟨y, hy⟩ : ∃ y, (ress.getD i []).getD k 9 = y := ⟨_, rfl⟩
       have hrd : rd (ress.getD i []) (k : Int) = y := by unfold rd; rw [Int.toNat_natCast, ← getD_90 hrl hkn]; exact hy
       rw [hrd, Int.toNat_natCast] at hv
       have HY := Lib.hid hy
       have HCC := Lib.hid hcc
       subst hA
       clear hrd hy hBr hC hrr hrl hcc
       have c0 := blk_cell HSB.out 1
       have z0 := blk_frozen (HS.out.rw_ j hrw) i
       have hrwl := HRT.out.f.rl j hlt
       have g0 := (HS.out.rw_ j hrw).at_ (i := i) (by omega)
       have o0 := blk_cell HS.out.ho j
       have hbl : j < bs.length := by rw [HS.out.lb]; exact hrw
       have hbe : bs[j] = bs.getD j 0 := by rw [List.getD_eq_getElem?_getD, List.getElem?_eq_getElem hbl]; rfl
       rw [List.getElem?_toArray, List.getElem?_append_left (by rw [List.length_map]; exact hbl), List.getElem?_map, List.getElem?_eq_getElem hbl, Option.map_some, hbe] at o0
       simp only [List.getElem?_toArray, List.getElem?_cons_succ, List.getElem?_cons_zero] at c0
       have HRW := Lib.hid (And.intro hrw (And.intro hrwl hbl))
       obtain ⟨bj, hbj⟩ : ∃ bj, bs.getD j 0 = bj := ⟨_, rfl⟩
       rw [hbj] at o0 z0 g0
       have HBJ := Lib.hid hbj
       clear hbj hbe hbl hrw hrwl
       go_upto_region 22 with (fail)
       go_still_tail 15, (by kernel_rfl)
       change wpList _ _ _ _ _ wr.drew
       have HS3 := Lib.hid HS.out.drewn
       have HSB3 := Lib.hid (show wr.drew.heap[sb]? = _ from HSB.out)
       have HB3 := Lib.hid (below_drew HB.out)
       have c1 : wr.drew.cell? ⟨sb, 1, none⟩ = _ := c0
       have o1 : wr.drew.cell? ⟨ob, j, none⟩ = _ := o0
       have z1 : wr.drew.frozen? ⟨bj, i, none⟩ = _ := z0
       have g1 : wr.drew.cell? ⟨bj, i, none⟩ = _ := g0
       have h1 : wr.drew.cell? ⟨rb, i, none⟩ = _ := h0
       have hv1 : wr.drew.cell? (adh.add k) = _ := hv
       clear HS HSB HB c0 o0 z0 g0 h0 hv
       generalize wr.drew = w11 at HS3 HSB3 HB3 c1 z1 g1 hv1 h1 o1 ⊢
       go_upto_region 23 with (fail)
       rw [show (if y < 0 then (0 : Int) else y) = max y 0 by split <;> omega]
       have hap := HS3.out.apart HSB3.out
       have hS4 := HS3.out.setR j HRW.out.1 i (max y 0)
       have hs4 := (Below.heap_setCell w11 ⟨bs.getD j 0, i, none⟩ (.int .i64 (max y 0)) sb (hap.2 j HRW.out.1)).trans HSB3.out
       have hB4 := HB3.out.setCell (p := ⟨bs.getD j 0, i, none⟩) (HS3.out.l2 j HRW.out.2.2) (.int .i64 (max y 0))
       have hR0 := HRT.out.row hlt hli
       rw [← HK.out, HY.out] at hR0
       rw [HBJ.out] at hS4 hs4 hB4
       obtain ⟨m2, hm⟩ : ∃ m2, max y 0 = m2 := ⟨_, rfl⟩
       rw [hm] at hS4 hs4 hB4 hR0 ⊢
       clear hap hm c1 z1 g1 hv1 h1 o1 HS3 HSB3 HB3
       generalize World.setCell _ _ _ = w12 at hS4 hs4 hB4 ⊢
       have HS4 := Lib.hid hS4
       have HSB4 := Lib.hid hs4
       have HB4 := Lib.hid hB4
       have HR0 := Lib.hid hR0
       clear hS4 hs4 hB4 hR0
       go_wp2_with fail
       go_roundw
       case rel => exact ⟨i + 1, _, by omega, by go_num, HR0.out, HS4.out, HSB4.out, HB4.out⟩
       case measure => simp [intOf]; omega
      ·obtain rfl : i = r := by omega
       clear hli hi
       have HFD := Lib.hid HRT.out.done
       go_wp2_with fail
       go_roundw
       case rel => exact ⟨j + 1, _, _, by omega, by go_num, HFD.out, HS.out, HSB.out, HB.out⟩
       case measure => simp [intOf]; omega
    ·obtain rfl : j = p := by omega
     clear hlt hj
     have c0 := blk_cell HSB.out 0
     have c1 := blk_cell HSB.out 1
     have hG := (HB.out.block _ hg5).trans HG7.out
     have HG := Lib.hid hG
     have z0 := blk_frozen hG 0
     have z1 := blk_frozen hG 1
     have g0 := blk_cell hG 0
     have g1 := blk_cell hG 1
     simp only [List.getElem?_toArray, List.getElem?_cons_succ, List.getElem?_cons_zero] at c0 c1 g0 g1
     clear hG
     go_upto_region 25 with (fail)
     have n1 : N + 1 < wr.heap.size := blk_lt HG.out
     have n2 : sb < wr.heap.size := blk_lt HSB.out
     go_region
     go_wp2_with fail
     have k1 := blk_put (blk_put HG.out 0 (hdr j hb) rfl) 1 (hdr j ob) rfl
     have e0 := blk_cell k1 0
     have e1 := blk_cell k1 1
     simp only [List.setIfInBounds_toArray, List.set_cons_zero, List.set_cons_succ, List.getElem?_toArray, List.getElem?_cons_succ, List.getElem?_cons_zero] at e0 e1
     have hp0 : f.f0.toNat = j := by rw [HPR.out.1]; exact Int.toNat_natCast j
     have hr0 : f.f1.toNat = r := by rw [HPR.out.2.1]; exact Int.toNat_natCast r
     have hbn : b < n5 := by rw [← HSZ.out]; exact blk_lt HBO.out
     have hbN : N + 1 < b := by have := HBS.out; omega
     refine bodyPost_ret (v := .tuple #[.slice (some ⟨b, 0, none⟩) (locsF f) (locsF f), .agg #[hdr j hb, hdr j ob], .int .i64 0]) ?_ rfl ⟨b, esc, hb, ob, bs, hs, rows, by rw [hp0], by rw [HN.out]; omega, ?_, HFI.out.func HPR.out.1 HPR.out.2.1 HRL.out (fun i hi => HI.out i (by rw [HRL.out]; exact hi)) HHI.out, ?_, ?_⟩
     ·have e0' : (World.drew ((wr.setCell ⟨N + 1, 0, none⟩ (hdr j hb)).setCell ⟨N + 1, 1, none⟩ (hdr j ob))).cell? ⟨N + 1, 0, none⟩ = _ := e0
      have e1' : (World.drew ((wr.setCell ⟨N + 1, 0, none⟩ (hdr j hb)).setCell ⟨N + 1, 1, none⟩ (hdr j ob))).cell? ⟨N + 1, 1, none⟩ = _ := e1
      simp [results, Tryz.f11, go_sem, e0', e1']
     ·show ((wr.setCell ⟨N + 1, 0, none⟩ (hdr j hb)).setCell ⟨N + 1, 1, none⟩ (hdr j ob)).heap[b]? = _
      exact (Below.heap_setCell _ ⟨N + 1, 1, none⟩ _ b (by show b ≠ N + 1; omega)).trans ((Below.heap_setCell _ ⟨N + 1, 0, none⟩ _ b (by show b ≠ N + 1; omega)).trans ((HB.out.block _ hbn).trans HBO.out))
     ·rw [hp0, hr0]
      exact (((HS.out.far hg5 0 _).far hg5 1 _).low (by rw [HN.out]; omega)).drewn
     ·rw [HN.out]
      exact below_drew (((HB7.out.trans (HB.out.mono (by omega))).setCell (p := ⟨N + 1, 0, none⟩) (Nat.le_succ _) _).setCell (p := ⟨N + 1, 1, none⟩) (Nat.le_succ _) _)
set_option maxRecDepth 100000 in
set_option maxHeartbeats 6400000 in
theorem func_err (G fi : Int) (A : Option Addr) (n c : Nat) (SA : Option Addr) (m sl : Nat) (w : World)
  (hed : ∀ W, Below w.heap.size w W → Calls Tryz.prog 42 #[.agg #[.int .i64 G, .slice A n c], .int .i64 fi, .slice SA m sl] W fun e w' => e = .returned (.tuple #[.slice none 0 0, .int .i64 1]) ∧ Below W.heap.size W w') :
  Calls Tryz.prog 11 #[.agg #[.int .i64 G, .slice A n c], .int .i64 fi, .slice SA m sl] w fun e w' => e = .returned (.tuple #[.slice none 0 0, .agg #[.slice none 0 0, .slice none 0 0], .int .i64 1]) ∧ Below w.heap.size w w' := by
 have HED := Lib.hid hed
 clear hed
 go_enter Tryz.func11, Tryz.ntmps11
 go_upto_region 1 with (fail)
 have hb0 := (below1 w (.cells #[.int .i64 G, .slice A n c] 24)).alloc (by simp) (.cells #[.slice none 0 0, .slice none 0 0] 34)
 have f1 := alloc_first w #[.int .i64 G, .slice A n c] 24 (.cells #[.slice none 0 0, .slice none 0 0] 34)
 have f2 := alloc_second w (.cells #[.int .i64 G, .slice A n c] 24) #[.slice none 0 0, .slice none 0 0] 34
 have HED1 := Lib.hid (HED.out _ hb0)
 obtain ⟨N, hN⟩ : ∃ N, w.heap.size = N := ⟨_, rfl⟩
 have HN := Lib.hid hN
 rw [hN] at hb0 f1 f2 ⊢
 clear hN HED
 generalize World.alloc _ _ = W1 at hb0 f1 f2 HED1 ⊢
 have HB1 := Lib.hid hb0
 have F1 := Lib.hid f1
 have F2 := Lib.hid f2
 clear hb0 f1 f2
 have c0 := blk_cell F1.out 0
 have c1 := blk_cell F1.out 1
 simp only [List.getElem?_toArray, List.getElem?_cons_succ, List.getElem?_cons_zero] at c0 c1
 go_wp2_with fail
 refine HED1.out.mono ?_
 rintro e W2 ⟨rfl, hb⟩
 have HB2 := Lib.hid (HB1.out.trans (hb.mono (by have := blk_lt F2.out; omega)))
 have G2 := Lib.hid ((hb.block _ (blk_lt F2.out)).trans F2.out)
 clear hb HED1 HB1 F1 F2 c0 c1
 have c0 := blk_cell G2.out 0
 have c1 := blk_cell G2.out 1
 have z0 := blk_frozen G2.out 0
 have z1 := blk_frozen G2.out 1
 simp only [List.getElem?_toArray, List.getElem?_cons_succ, List.getElem?_cons_zero] at c0 c1
 go_wp2_with fail
 have k0 := blk_put G2.out 0 (.slice none 0 0) rfl
 have k1 := blk_put k0 1 (.slice none 0 0) rfl
 have e0 := blk_cell k1 0
 have e1 := blk_cell k1 1
 simp only [List.setIfInBounds_toArray, List.set_cons_zero, List.set_cons_succ, List.getElem?_toArray, List.getElem?_cons_succ, List.getElem?_cons_zero] at e0 e1
 refine bodyPost_ret (v := .tuple #[.slice none 0 0, .agg #[.slice none 0 0, .slice none 0 0], .int .i64 1]) ?_ rfl ⟨rfl, ?_⟩
 ·simp [results, Tryz.f11, go_sem, e0, e1]
 ·rw [HN.out]
  exact (HB2.out.setCell (p := ⟨N + 1, 0, none⟩) (Nat.le_succ _) _).setCell (p := ⟨N + 1, 1, none⟩) (Nat.le_succ _) _
end Go.Proofs.YtcbcacbbnojdjaaGreatDoor
