/-
 Part X of what the law's proof needs: walks of the program's functions and the plain laws of what they tell. No condition.
-/
import Derived.Test.YtcbcacbbnojdjaaGreatDoorMgV
namespace Go.Proofs.YtcbcacbbnojdjaaGreatDoor
open Go.RowKit Go.Maps Go.Proofs.YtcbcacbbnojdjaaGreatDoorW.PrintWords Go.Proofs.YtcbcacbbnojdjaaGreatDoorW.PrintLast Go.Proofs.YtcbcacbbnojdjaaGreatDoorW.PrintMore Go.Proofs.YtcbcacbbnojdjaaGreatDoor.PSolveFunctions
set_option linter.unusedVariables false
set_option linter.unusedSimpArgs false
theorem FunOk.insOk {G : Int} {fs : List Fun} {sums : List Smm} {f : Fun} (h : FunOk G fs f) (hl : sums.length = fs.length) (hfit : FitAll fs sums f) : ∀ x ∈ f.f3, InsOk sums x := by
 intro x hx
 obtain ⟨k, hk, rfl⟩ := List.getElem_of_mem hx
 have hI := h.ins k hk
 have hcl := h.cal k hk
 rw [List.getD_eq_getElem?_getD, List.getElem?_eq_getElem hk] at hI hcl
 exact insOk_of2 hI h.hd hcl hl (hfit _ hx)
abbrev fun_ (fs : List Fun) (fi : Int) : Fun := fs.getD fi.toNat zF
abbrev edges_ (fs : List Fun) (sums : List Smm) (fi : Int) : List Edg := (allE (fun_ fs fi) sums (1 + (fun_ fs fi).f1 + (fun_ fs fi).f2) (fun_ fs fi).f3.length).1
def funcRPost (G : Int) (fs : List Fun) (sums : List Smm) (fi : Int) (esc : List Bool) (hs : List Int) (rows : List (List Int)) (w : World) (e : Ending) (w' : World) : Prop :=
 (Good G fs sums fi ∧ ∃ ve vh vr, e = .returned (.tuple #[ve, .agg #[vh, vr], .int .i64 0]) ∧ Kd.bool.R 4 w' w.heap.size (fun _ => True) ve esc ∧ (Kd.int .i64).R 3 w' w.heap.size (fun _ => True) vh hs ∧ (Kd.slice 3 (Kd.int .i64)).R 31 w' w.heap.size (fun _ => True) vr rows ∧ Below w.heap.size w w') ∨
 (¬ Good G fs sums fi ∧ e = .returned (.tuple #[.slice none 0 0, .agg #[.slice none 0 0, .slice none 0 0], .int .i64 1]) ∧ Below w.heap.size w w')
noncomputable def funcRT18 : Bool × List (List Nat × List Nat) := rtab .any (opsOf Tryz.f12 18)
theorem funcR_tab18 : rtab .any (opsOf Tryz.f12 18) = funcRT18 := rfl
set_option maxRecDepth 100000 in
set_option maxHeartbeats 12800000 in
theorem funcR_any (G : Int) (A : Option Addr) (c : Nat) (fs : List Fun) (fi : Int) (SA : Option Addr) (sums : List Smm) (sl : Nat) (w : World) (hC : k66.C w A fs.length fs) (hS : k34.C w SA sums.length sums) (hlen : fs.length ≤ 2147483647)
  (hcode : ∀ f ∈ fs, f.f3.length ≤ 2147483646 ∧ ∀ x ∈ f.f3, x.f5.length ≤ 2147483647 ∧ x.f6.length ≤ 2147483647) (hsl : sums.length ≤ 2147483647) (hsm : ∀ s ∈ sums, s.f0.length ≤ 2147483646 ∧ ∀ r ∈ s.f1, r.length ≤ 2147483647)
  (esc : List Bool) (hs : List Int) (rows : List (List Int)) (hfu : Good G fs sums fi → FuncIs (fun_ fs fi) (edges_ fs sums fi) esc hs rows) :
  Calls Tryz.prog 12 #[.agg #[.int .i64 G, .slice A fs.length c], .int .i64 fi, .slice SA sums.length sl] w (funcRPost G fs sums fi esc hs rows w) := by
 have HC := Lib.hid hC
 have HS := Lib.hid hS
 have HFU := Lib.hid hfu
 have HED := Lib.hid (fun (W : World) (hb : Below w.heap.size w W) => edges7_any G A c fs fi SA sums sl W (Kd.C_below hC hb) (Kd.C_below hS hb) hlen hcode hsl hsm)
 clear hC hS hfu hcode hsm
 go_enter Tryz.func12, Tryz.ntmps12
 go_upto_region 1 with (fail)
 have hb0 := (below1 w (.cells #[.int .i64 G, .slice A fs.length c] 24)).alloc (by simp) (.cells #[.slice none 0 0, .slice none 0 0] 34)
 have f1 := alloc_first w #[.int .i64 G, .slice A fs.length c] 24 (.cells #[.slice none 0 0, .slice none 0 0] 34)
 have f2 := alloc_second w (.cells #[.int .i64 G, .slice A fs.length c] 24) #[.slice none 0 0, .slice none 0 0] 34
 have HED1 := Lib.hid (HED.out _ hb0)
 obtain ⟨N, hN⟩ : ∃ N, w.heap.size = N := ⟨_, rfl⟩
 have HN := Lib.hid hN
 rw [hN] at hb0 f1 f2 ⊢
 clear hN HED
 generalize World.alloc _ _ = W1 at hb0 f1 f2 HED1 ⊢
 have HB1 := Lib.hid hb0
 have F1 := Lib.hid f1
 have F2 := Lib.hid f2
 clear hb0 f1 f2
 have c0 := blk_cell F1.out 0
 have c1 := blk_cell F1.out 1
 simp only [List.getElem?_toArray, List.getElem?_cons_succ, List.getElem?_cons_zero] at c0 c1
 go_wp2_with fail
 refine HED1.out.mono ?_
 rintro e W2 (⟨hg, ve, rfl, hre, hb⟩ | ⟨hg, rfl, hb⟩)
 ·obtain ⟨Ae, ce, rfl⟩ := Kd.R_slice hre
  obtain ⟨⟨⟨hf0, hf1⟩, hfo⟩, hlq, hfit⟩ := hg
  obtain ⟨f, hf⟩ : ∃ f, f = fs.getD fi.toNat zF := ⟨_, rfl⟩
  obtain ⟨ress, h, hfl⟩ := HFU.out ⟨⟨⟨hf0, hf1⟩, hfo⟩, hlq, hfit⟩
  have HG := Lib.hid (show Good G fs sums fi from ⟨⟨⟨hf0, hf1⟩, hfo⟩, hlq, hfit⟩)
  have hEok := all_ok2 hfo hlq hfit _ (Nat.le_refl _)
  have hio := hfo.insOk hlq hfit
  have hEl := allE_length _ sums (1 + (fs.getD fi.toNat zF).f1 + (fs.getD fi.toNat zF).f2) hio _ (Nat.le_refl _)
  have hnl := calls_news (fs.getD fi.toNat zF).f3 (fs.getD fi.toNat zF).f3.length
  change FlowIs (fs.getD fi.toNat zF) (allE (fs.getD fi.toNat zF) sums (1 + (fs.getD fi.toNat zF).f1 + (fs.getD fi.toNat zF).f2) (fs.getD fi.toNat zF).f3.length).1 _ _ _ _ _ at hfl
  obtain ⟨E, hE⟩ : ∃ E, (allE (fs.getD fi.toNat zF) sums (1 + (fs.getD fi.toNat zF).f1 + (fs.getD fi.toNat zF).f2) (fs.getD fi.toNat zF).f3.length).1 = E := ⟨_, rfl⟩
  rw [hE] at hre hEok hEl hfl ⊢
  rw [← hf] at hfo hfit hEok hfl hEl hnl
  have hH := hfo.hd
  have hr0 := hH.r0; have hr1 := hH.r1; have hp0 := hH.p0; have h8 := hH.p1
  have hp1 : f.f0 ≤ f.f2 ∧ f.f0 ≤ 8 := by split at h8 <;> omega
  have hv := hH.v1
  have hn0 := hH.n0; have hn1 := hH.n1
  have hloc : (locsF f : Int) = 1 + f.f1 + f.f2 + newsTo f.f3 f.f3.length := by unfold locsF; omega
  have hce := (Kd.R_reads' hre).2.1
  have HCE := Lib.hid ((Kd.R_reads' hre).2.2)
  have HEOK := Lib.hid hEok
  have HFL := Lib.hid hfl
  have HEL := Lib.hid hEl
  have HNL := Lib.hid hnl
  have HLOC := Lib.hid hloc
  have HF := Lib.hid hf
  have G1 := Lib.hid ((hb.block _ (blk_lt F1.out)).trans F1.out)
  have G2 := Lib.hid ((hb.block _ (blk_lt F2.out)).trans F2.out)
  have HB2 := Lib.hid (HB1.out.trans (hb.mono (by have := blk_lt F2.out; omega)))
  clear hre hb hEok hfl hEl hnl hloc h8 hio hfo hfit hlq hE HED1 HB1 F1 F2 c0 c1 hH HFU
  have c1 := blk_cell G1.out 1
  simp only [List.getElem?_toArray, List.getElem?_cons_succ, List.getElem?_cons_zero] at c1
  obtain ⟨ad, A3, c3, hA, e0, e1, e2, e3, hc3, hC3⟩ := at_T66 (Kd.C_below HC.out (HN.out ▸ HB2.out)) fi hf0 hf1
  have hf' : rd_T66 fs fi = f := HF.out.symm
  rw [hf'] at e0 e1 e2 e3 hc3 hC3
  subst hA
  have HC3 := Lib.hid hC3
  clear hf' hC3 hf
  go_upto_region 5 with (fail)
  have hsz2 : N + 1 < W2.heap.size := blk_lt G2.out
  have hb3 := below1 W2 (.cells #[.int .i64 f.f0, .int .i64 f.f1, .int .i64 f.f2, .slice A3 f.f3.length c3] 66)
  have hn3 := alloc_new W2 (.cells #[.int .i64 f.f0, .int .i64 f.f1, .int .i64 f.f2, .slice A3 f.f3.length c3] 66)
  have HC4 := Lib.hid (Kd.C_below HC3.out hb3)
  have HE4 := Lib.hid (Kd.C_below HCE.out hb3)
  have G3 := Lib.hid ((hb3.block _ (blk_lt G2.out)).trans G2.out)
  have HB3 := Lib.hid (HB2.out.trans (hb3.mono (by omega)))
  obtain ⟨fb, hfb⟩ : ∃ fb, W2.heap.size = fb := ⟨_, rfl⟩
  rw [hfb] at hn3 hsz2 ⊢
  generalize World.alloc _ _ = W3 at hb3 hn3 HC4 HE4 G3 HB3 ⊢
  have FB := Lib.hid hn3
  clear hb3 hfb c1 e0 e1 e2 e3 HC3 HCE G1 G2 HB2 hn3
  have c0 := blk_cell FB.out 0
  have c1 := blk_cell FB.out 1
  have c2 := blk_cell FB.out 2
  have c3' := blk_cell FB.out 3
  simp only [List.getElem?_toArray, List.getElem?_cons_succ, List.getElem?_cons_zero] at c0 c1 c2 c3'
  have HLC := Lib.hid (locs7_any f A3 c3 W3 HC4.out ⟨hr0, hr1⟩ ⟨by omega, hv⟩ (by omega))
  go_wp2_with fail
  refine HLC.out.mono ?_
  rintro e w4 ⟨rfl, hb4⟩
  have FB4 := Lib.hid ((hb4.block _ (blk_lt FB.out)).trans FB.out)
  have G4 := Lib.hid ((hb4.block _ (blk_lt G3.out)).trans G3.out)
  have HE5 := Lib.hid (Kd.C_below HE4.out hb4)
  have HB4 := Lib.hid (HB3.out.trans (hb4.mono (by have := blk_lt G3.out; omega)))
  clear hb4 c0 c1 c2 c3' HLC FB G3 HE4 HB3 HC4
  obtain ⟨n, hn⟩ : ∃ n : Nat, locsF f = n := ⟨_, rfl⟩
  obtain ⟨p, hp⟩ : ∃ p : Nat, f.f0 = p := ⟨f.f0.toNat, by omega⟩
  obtain ⟨r, hr⟩ : ∃ r : Nat, f.f1 = r := ⟨f.f1.toNat, by omega⟩
  have hp8 : p ≤ 8 := by omega
  have hr4 : r ≤ 4 := by omega
  have hpn : 1 + r + p ≤ n := by have := HLOC.out; omega
  have hln : n ≤ 4400 := by have := HLOC.out; have := HNL.out; omega
  have hEL : E.length ≤ 2147483647 := by have := HEL.out; omega
  have HPR := Lib.hid (And.intro hp (And.intro hr hn))
  have hfl := HFL.out
  have HRF := Lib.hid (show ∀ j, j < ress.length → IsFrom n E [1 + (j : Int)] (ress.getD j []) from fun j hj => hn ▸ hfl.rf j hj)
  have HRL := Lib.hid (show ress.length = r by have := hfl.rl; omega)
  have HHP := Lib.hid (show HeapIs n r E ress esc h by have := hfl.hp; rwa [hn, hr] at this)
  have HOE := Lib.hid (show ∀ e ∈ E, okE n e from fun e he => hn ▸ HEOK.out e he)
  have hescl : esc.length = n := HHP.out.len
  clear hfl
  have c1 := blk_cell FB4.out 1
  simp only [List.getElem?_toArray, List.getElem?_cons_succ, List.getElem?_cons_zero] at c1
  rw [hr] at c1
  rw [hn]
  have HEC := Lib.hid (escapesR_any n r Ae ce E ress esc h w4 HHP.out HRL.out (fun j hj => HRF.out j (by rw [HRL.out]; exact hj)) HE5.out hce HOE.out (by omega) hr4 (by omega) hEL)
  clear hn hp hr
  go_wp2_with fail
  refine HEC.out.mono ?_
  rintro e w5 ⟨ve, rfl, hrv, hb5⟩
  obtain ⟨Ab, cb, rfl⟩ := Kd.R_slice hrv
  rw [hescl] at hrv ⊢
  have FB5 := Lib.hid ((hb5.block _ (blk_lt FB4.out)).trans FB4.out)
  have G5 := Lib.hid ((hb5.block _ (blk_lt G4.out)).trans G4.out)
  have HE6 := Lib.hid (Kd.C_below HE5.out hb5)
  have HB5 := Lib.hid (HB4.out.trans (hb5.mono (by have := blk_lt G4.out; omega)))
  have HEV := Lib.hid (Kd.R_lower hrv (show N ≤ w4.heap.size by have := blk_lt G4.out; omega))
  have hbc := (Kd.R_reads' hrv).2.1
  have HHS := Lib.hid (heapsR_any Ab cb esc w5 (Kd.R_reads' hrv).2.2 (by omega) (by omega))
  rw [hescl] at HHS
  clear hrv hb5 c1 HEC FB4 G4 HE5 HB4
  go_wp2_with fail
  refine HHS.out.mono ?_
  rintro e w6 ⟨v, rfl, hrv, hb6⟩
  obtain ⟨rt, hrt⟩ : ∃ rt, rootsB esc = rt := ⟨_, rfl⟩
  rw [hrt] at hrv
  obtain ⟨Ar, cr, rfl⟩ := Kd.R_slice hrv
  have hrl : rt.length ≤ n + 1 := by rw [← hrt, rootsB, hescl]; exact roots_length esc n
  have hrm : ∀ x ∈ rt, 0 ≤ x ∧ x < n := fun x hx => by
   rw [← hrt, rootsB, hescl] at hx
   rcases (mem_roots esc x n).1 hx with h0 | ⟨q, hq, _, h0⟩ <;> omega
  have HFW := Lib.hid (flowsR_any n Ae ce E Ar cr rt w6 (Kd.C_below HE6.out hb6) hce (Kd.R_reads' hrv).2.2 (Kd.R_reads' hrv).2.1 HOE.out hrm (by omega) (by omega) hEL (by omega))
  have FB6 := Lib.hid ((hb6.block _ (blk_lt FB5.out)).trans FB5.out)
  have G6 := Lib.hid ((hb6.block _ (blk_lt G5.out)).trans G5.out)
  have HE7 := Lib.hid (Kd.C_below HE6.out hb6)
  have HEV6 := Lib.hid (Kd.R_below HEV.out hb6)
  have HB6 := Lib.hid (HB5.out.trans (hb6.mono (by have := blk_lt G5.out; omega)))
  have HFR := Lib.hid (show IsFrom n E rt h by rw [← hrt]; exact HHP.out.frm)
  clear hrv hb6 hrt hrm HHS FB5 G5 HE6 HEV HB5
  go_wp2_with fail
  refine HFW.out.mono ?_
  rintro e w7 ⟨v, h', rfl, hl, hrv, hb7⟩
  obtain rfl := hl.one HFR.out
  have hhl := hl.len
  obtain ⟨Ah, ch, rfl⟩ := Kd.R_slice hrv
  rw [hhl] at hrv ⊢
  have FB7 := Lib.hid ((hb7.block _ (blk_lt FB6.out)).trans FB6.out)
  have G7 := Lib.hid ((hb7.block _ (blk_lt G6.out)).trans G6.out)
  have HE8 := Lib.hid (Kd.C_below HE7.out hb7)
  have HEV7 := Lib.hid (Kd.R_below HEV6.out hb7)
  have HHV := Lib.hid ((Kd.R_reads' hrv).2.2)
  have HB7 := Lib.hid (HB6.out.trans (hb7.mono (by have := blk_lt G6.out; omega)))
  clear hl hrv hb7 HFW FB6 G6 HE7 HEV6 HB6 HFR
  obtain ⟨M1, hM1⟩ : ∃ M1, w7.heap.size = M1 := ⟨_, rfl⟩
  have HM1 := Lib.hid hM1
  have hfM : fb < M1 := hM1 ▸ blk_lt FB7.out
  have hNM : N + 1 < M1 := hM1 ▸ blk_lt G7.out
  clear hM1
  have c1 := blk_cell FB7.out 1
  simp only [List.getElem?_toArray, List.getElem?_cons_succ, List.getElem?_cons_zero] at c1
  rw [HPR.out.2.1] at c1
  go_wp2_with fail
  clear c1
  go_loopw [15, 16] (fun v i wr => ∃ j : Nat, j ≤ r ∧ i = .int .i64 j ∧ (Kd.slice 3 (Kd.int .i64)).R 31 wr M1 (fun _ => True) v (ress.take j) ∧ Below M1 w7 wr) (fun _ i _ => r - (intOf i).toNat)
  case atStart => exact ⟨0, by omega, rfl, Kd.R_nil _ _ _ _ _, HM1.out ▸ Below.refl _ _⟩
  case round =>
   obtain ⟨j, hj, rfl, hr0, hb⟩ := hrel
   have HR := Lib.hid hr0
   have HB := Lib.hid hb
   have hbb : Below w7.heap.size w7 wr := HM1.out ▸ hb
   have FBr := Lib.hid ((hbb.block _ (blk_lt FB7.out)).trans FB7.out)
   have HEr := Lib.hid (Kd.C_below HE8.out hbb)
   have c1 := blk_cell FBr.out 1
   simp only [List.getElem?_toArray, List.getElem?_cons_succ, List.getElem?_cons_zero] at c1
   rw [HPR.out.2.1] at c1
   clear hr0 hb hbb
   have htl : (ress.take j).length = j := by rw [List.length_take, HRL.out]; omega
   obtain ⟨Av, cv, hve⟩ := Kd.R_slice HR.out
   rw [htl] at hve
   subst hve
   by_cases hlt : j < r
   ·have hbA := below1 wr (.cells #[.int .i64 (1 + (j : Int))] 3)
    have HFW := flowsR_any n Ae ce E (some ⟨wr.heap.size, 0, none⟩) 1 [1 + (j : Int)] (wr.alloc (.cells #[.int .i64 (1 + (j : Int))] 3)) (Kd.C_below HEr.out hbA) hce (row_one _ _) (Nat.le_refl _) HOE.out (fun x hx => by
     obtain rfl := List.mem_singleton.1 hx
     omega) (by omega) (by omega) hEL (by simp)
    simp only [List.length_singleton] at HFW
    have HFV := Lib.hid HFW
    have HXA := Lib.hid (Kd.R_below HR.out hbA)
    have HBA := Lib.hid (HB.out.trans (hbA.mono (HM1.out ▸ HB.out.size)))
    clear HFW
    go_wp2_with fail
    refine HFV.out.mono ?_
    rintro e w8 ⟨v, l, rfl, hl, hrv, hb8⟩
    obtain rfl := hl.one (HRF.out j (by rw [HRL.out]; exact hlt))
    have hll := hl.len
    obtain ⟨Ah2, ch2, rfl⟩ := Kd.R_slice hrv
    have HTK := Lib.hid (show ress.take (j + 1) = ress.take j ++ [ress.getD j []] by
     rw [List.take_succ_eq_append_getElem (by rw [HRL.out]; exact hlt), List.getD_eq_getElem?_getD, List.getElem?_eq_getElem (by rw [HRL.out]; exact hlt)]; rfl)
    have HX8 := Lib.hid (Kd.R_below HXA.out hb8)
    have HB8 := Lib.hid (HBA.out.trans (hb8.mono (HM1.out ▸ HBA.out.size)))
    have HMR := Lib.hid (Kd.M_row (e := 3) (Kd.R_lower (Kd.R_mono (ok' := fun k => wr.heap.size ≤ k) (Kd.R_bound hrv) (fun k hk => by
     have := hk.2.1
     simp at this
     omega)) (show M1 ≤ _ from HM1.out ▸ HBA.out.size)))
    clear hl hrv hb8 HFV HXA HBA hbA c1
    go_wp2_with (first | (at_builtin; refine Kd.R_append (Kd.slice 3 (Kd.int .i64)) (w0 := w7) (W := w8) M1 rfl (.tmp 56) (.tmp 63) 32 31 (.slice none 0 0) 24 rfl Tryz.underlying32 info31 rfl (by decide) (by decide) (.slice Av j cv) (ress.take j) (ress.getD j []) [.slice Ah2 (ress.getD j []).length ch2] (fun _ => True) (fun k => wr.heap.size ≤ k) rfl rfl HMR.out (fun k hk => ⟨trivial, fun e => by have := Kd.R_lt HR.out k e.symm; omega⟩) (fun _ _ => trivial) HX8.out HB8.out (HM1.out ▸ HB8.out.size) (by rw [htl]; omega) ?_; intro u1 w9 hr9 hb9 hg9 hat9; have HR9 := Lib.hid hr9; have HB9 := Lib.hid hb9; clear hr9 hb9 hg9 hat9))
    go_roundw
    case rel => exact ⟨j + 1, by omega, by go_num, by rw [HTK.out]; exact HR9.out, HB9.out⟩
    case measure => simp [intOf]; omega
   ·obtain rfl : r = j := by omega
    obtain ⟨w9, rfl⟩ : ∃ w9 : World, w9 = wr := ⟨_, rfl⟩
    have hRC := (Kd.R_reads' HR.out).2.2
    have hrc := (Kd.R_reads' HR.out).2.1
    rw [show ress.take r = ress from List.take_of_length_le (by rw [HRL.out]; exact Nat.le_refl _)] at hRC
    have HRC := Lib.hid hRC
    have hbb : Below w7.heap.size w7 w9 := HM1.out ▸ HB.out
    have HHr := Lib.hid (Kd.C_below HHV.out hbb)
    have HEV8 := Lib.hid (Kd.R_below HEV7.out hbb)
    have Gr := Lib.hid ((hbb.block _ (blk_lt G7.out)).trans G7.out)
    have HB8 := Lib.hid (HB7.out.trans (HB.out.mono (by omega)))
    clear hlt hj hRC hbb htl FB7 G7 HE8 HEV7 HHV HEr HB7
    go_upto_region 14 with (fail)
    have hbS := below1 w9 (.cells #[.slice none 0 0, .slice none 0 0] 34)
    have hnS := alloc_new w9 (.cells #[.slice none 0 0, .slice none 0 0] 34)
    obtain ⟨S, hS⟩ : ∃ S, w9.heap.size = S := ⟨_, rfl⟩
    have HSZ := Lib.hid hS
    have hMS : M1 ≤ S := by rw [← hS, ← HM1.out]; exact (HM1.out ▸ HB.out.size)
    rw [hS] at hnS ⊢
    generalize World.alloc _ _ = W10 at hnS hbS ⊢
    have HNS := Lib.hid hnS
    have HBS := Lib.hid (show Below S w9 W10 by rw [← hS]; exact hbS)
    clear hnS hbS hS HR HB c1
    have c0 := blk_cell ((HBS.out.block _ (by have := blk_lt FBr.out; rw [HSZ.out] at this; exact this)).trans FBr.out) 0
    simp only [List.getElem?_toArray, List.getElem?_cons_succ, List.getElem?_cons_zero] at c0
    rw [HPR.out.1] at c0
    have hflh := HFL.out
    have hhsl : hs.length = p := by have := hflh.hl; have := HPR.out.1; omega
    have hrwl : rows.length = p := by have := hflh.wl; have := HPR.out.1; omega
    go_wp2_with fail
    clear c0
    go_loopw [18] (fun i wr => ∃ (q : Nat) (vh vr : Value), q ≤ p ∧ i = .int .i64 q ∧ wr.heap[S]? = some (.cells #[vh, vr] 34 (0, 0)) ∧ (Kd.int .i64).R 3 wr S (fun _ => True) vh (hs.take q) ∧ (Kd.slice 3 (Kd.int .i64)).R 31 wr S (fun k => True ∧ some k ≠ vh.ownBlock) vr (rows.take q) ∧ Below S w9 wr) (fun i _ => p - (intOf i).toNat)
    case atStart => exact ⟨0, _, _, by omega, rfl, HNS.out, Kd.R_nil _ _ _ _ _, Kd.R_nil _ _ _ _ _, HBS.out⟩
    case round =>
     clear HNS HBS
     obtain ⟨q, vh, vr, hq, rfl, hns, hrh, hrr, hb⟩ := hrel
     have HNS := Lib.hid hns
     have HRH := Lib.hid hrh
     have HRR := Lib.hid hrr
     have HB := Lib.hid hb
     have hbb : Below w9.heap.size w9 wr := by rw [HSZ.out]; exact hb
     have hFB := (hbb.block _ (blk_lt FBr.out)).trans FBr.out
     have c0 := blk_cell hFB 0
     have c1 := blk_cell hFB 1
     have c2 := blk_cell hFB 2
     have c3' := blk_cell hFB 3
     simp only [List.getElem?_toArray, List.getElem?_cons_succ, List.getElem?_cons_zero] at c0 c1 c2 c3'
     have HBB := Lib.hid hbb
     have HFB := Lib.hid hFB
     clear hns hrh hrr hb hFB hbb
     by_cases hlt : q < p
     ·have hvq : 0 ≤ (q : Int) ∧ (q : Int) < f.f2 := by have := HPR.out.1; omega
      have hqf : (q : Int) < f.f0 := by have := HPR.out.1; omega
      have HVA := Lib.hid (var7_any f (q : Int) A3 f.f3.length c3 wr ⟨hr0, hr1⟩ hv)
      obtain ⟨a, ha⟩ : ∃ a, a = 1 + r + q := ⟨_, rfl⟩
      have HVE := Lib.hid (show varE f (q : Int) = (a : Int) by rw [varE_of hvq, ha]; unfold atE; have := HPR.out.2.1; omega)
      have han : a < n := by omega
      obtain ⟨Avh, cvh, hvh⟩ := Kd.R_slice HRH.out
      have hql : (hs.take q).length = q := by rw [List.length_take]; omega
      rw [hql] at hvh
      subst hvh
      obtain ⟨hd, hHd, hx⟩ := Kd.at_int HHr.out (a : Int) (by omega) (by omega)
      obtain ⟨d, hd0⟩ : ∃ d, h'.getD a 9 = d := ⟨_, rfl⟩
      have hrd : rd h' (a : Int) = d := by rw [← hd0, getD_90 hhl han]; rfl
      rw [hrd, Int.toNat_natCast] at hx
      have hdw : InW (h'.getD a 9) := HHP.out.frm.clo.inw a
      have hd1 : -1 ≤ d := by rw [hd0] at hdw; unfold InW at hdw; omega
      have HXD := Lib.hid hx
      have HTK := Lib.hid (show hs.take (q + 1) = hs.take q ++ [max d 0] by
       rw [List.take_succ_eq_append_getElem (by omega)]
       have := HFL.out.ha q (by omega)
       rw [show (1 + f.f1 + (q : Int)).toNat = a by have := HPR.out.2.1; omega, hd0, List.getD_eq_getElem?_getD, List.getElem?_eq_getElem (by omega)] at this
       simp only [Option.getD_some] at this
       rw [this])
      subst hHd
      have HA := Lib.hid (show (1 + f.f1 + (q : Int)).toNat = a by have := HPR.out.2.1; omega)
      clear hvq ha hrd hd0 hdw hx
      go_wp2_with fail
      refine HVA.out.mono ?_
      rintro e w11 ⟨rfl, hb11⟩
      rw [HVE.out]
      have HNS1 := Lib.hid ((hb11.block _ (blk_lt HNS.out)).trans HNS.out)
      have HRH1 := Lib.hid (show (Kd.int .i64).R 3 w11.drew S (fun _ => True) (.slice Avh q cvh) (hs.take q) from Kd.R_below (Kd.R_below HRH.out hb11) (below_drew (Below.refl _ _)))
      have HRR1 := Lib.hid (show (Kd.slice 3 (Kd.int .i64)).R 31 w11.drew S (fun k => True ∧ some k ≠ (Value.slice Avh q cvh).ownBlock) vr (rows.take q) from Kd.R_below (Kd.R_below HRR.out hb11) (below_drew (Below.refl _ _)))
      have HBB1 := Lib.hid (HBB.out.trans (hb11.mono HBB.out.size))
      have HB1' := Lib.hid (show Below S w9 w11.drew from below_drew (HB.out.trans (hb11.mono (by rw [← HSZ.out]; exact HBB.out.size))))
      have HFB1 := Lib.hid ((hb11.block _ (blk_lt HFB.out)).trans HFB.out)
      clear hb11 HVA HVE c0 c1 c2 c3' HNS HRH HRR HBB HB HFB
      have y0 := blk_cell HNS1.out 0
      simp only [List.getElem?_toArray, List.getElem?_cons_succ, List.getElem?_cons_zero] at y0
      have hx := below_cells HBB1.out _ _ HXD.out
      have HT := Lib.hid (told_any' d hd1 w11.drew)
      have hhS : (hd.add a).block ≠ S := by
       have h2 := World.block_lt_of_cell? w9 _ HXD.out
       rw [HSZ.out] at h2
       omega
      have ky0 : S < w11.heap.size := blk_lt HNS1.out
      go_upto_region 18 with (fail)
      refine start_ (n := 11) (S := fun w' => w'.cell? (hd.add a) = some (.int .i64 d) ∧ w'.cell? ⟨S, 0, none⟩ = some (.slice Avh q cvh)) (ds := [10]) #[false, false, false, false, false, false, false, false, false, false, false] (by kernel_rfl) rfl rfl ⟨hx, y0⟩ (fun hHeld => ?_)
      refine with_tab funcR_tab18 (fun HT_ => ?_)
      refine pure_ (i := 0) (N := some 74) (v := ?_) (a' := ?_) #[true, false, false, false, false, false, false, false, false, false, false] rfl rfl (any_of HT_.out (by kernel_rfl)) (fun _ _ _ h => h) (Or.inl ⟨by rfl, ?_⟩) ?_ ?_
      rotate_left
      ·intro w'
       go_simp
       with_reducible rfl
      rotate_left
      ·simp only [Act.put, List.setIfInBounds_toArray, List.set_cons_zero, List.set_cons_succ, i64_w, i32_w]
       rfl
      refine take_ (i := 1) (N := some 75) (v := ?_) (a' := ?_) #[true, true, false, false, false, false, false, false, false, false, false] rfl rfl (take_of HT_.out (by kernel_rfl)) (fun _ _ _ h => h) (Or.inl ⟨by rfl, ?_⟩) hHeld ?_ ?_
      rotate_left
      ·rintro w' ⟨s0, s1⟩
       go_simp
       with_reducible rfl
      rotate_left
      ·simp only [Act.put, List.setIfInBounds_toArray, List.set_cons_zero, List.set_cons_succ, i64_w, i32_w]
       rfl
      refine pure_ (i := 2) (N := some 76) (v := ?_) (a' := ?_) #[true, true, true, false, false, false, false, false, false, false, false] rfl rfl (any_of HT_.out (by kernel_rfl)) (fun _ _ _ h => h) (Or.inl ⟨by rfl, ?_⟩) ?_ ?_
      rotate_left
      ·intro w'
       go_simp
       with_reducible rfl
      rotate_left
      ·simp only [Act.put, List.setIfInBounds_toArray, List.set_cons_zero, List.set_cons_succ, i64_w, i32_w]
       rfl
      refine pure_ (i := 3) (N := some 77) (v := ?_) (a' := ?_) #[true, true, true, true, false, false, false, false, false, false, false] rfl rfl (any_of HT_.out (by kernel_rfl)) (fun _ _ _ h => h) (Or.inl ⟨by rfl, ?_⟩) ?_ ?_
      rotate_left
      ·intro w'
       go_simp
       with_reducible rfl
      rotate_left
      ·simp only [Act.put, List.setIfInBounds_toArray, List.set_cons_zero, List.set_cons_succ, i64_w, i32_w]
       rfl
      refine pure_ (i := 4) (N := some 78) (v := ?_) (a' := ?_) #[true, true, true, true, true, false, false, false, false, false, false] rfl rfl (any_of HT_.out (by kernel_rfl)) (fun _ _ _ h => h) (Or.inl ⟨by rfl, ?_⟩) ?_ ?_
      rotate_left
      ·intro w'
       go_simp
       with_reducible rfl
      rotate_left
      ·simp only [Act.put, List.setIfInBounds_toArray, List.set_cons_zero, List.set_cons_succ, i64_w, i32_w]
       rfl
      refine take_ (i := 5) (N := some 79) (v := ?_) (a' := ?_) #[true, true, true, true, true, true, false, false, false, false, false] rfl rfl (take_of HT_.out (by kernel_rfl)) (fun _ _ _ h => h) (Or.inl ⟨by rfl, ?_⟩) hHeld ?_ ?_
      rotate_left
      ·rintro w' ⟨s0, s1⟩
       go_simp
       with_reducible rfl
      rotate_left
      ·simp only [Act.put, List.setIfInBounds_toArray, List.set_cons_zero, List.set_cons_succ, i64_w, i32_w]
       rfl
      refine one_ (i := 6) (N := some 80) #[true, true, true, true, true, true, true, false, false, false, false] rfl rfl (one_of HT_.out (by kernel_rfl)) (by decide) (fun K hK => ?_)
      refine goes_ Tryz.func53 (by kernel_rfl) rfl #[.int .i64 d] (by rfl) rfl rfl (by simp only [List.map_toArray, List.map_cons, List.map_nil]; rfl) ?_
      refine HT.out.mono ?_
      rintro e w12 ⟨rfl, rfl⟩
      refine ⟨_, rfl, ?_⟩
      refine hK.out _ _ hHeld (fun hHeld2 => ?_)
      clear hK K
      refine norm_ (a' := ?_) ?_ ?_
      rotate_left
      ·show Act.put _ (some 80) _ = _
       simp only [Act.put, List.setIfInBounds_toArray, List.set_cons_zero, List.set_cons_succ, i64_w, i32_w]
       rfl
      refine one_ (i := 7) (N := some 81) #[true, true, true, true, true, true, true, true, false, false, false] rfl rfl (one_of HT_.out (by kernel_rfl)) (by decide) (fun K hK => ?_)
      refine value_ (w1 := ?_) (v := ?_) (by rfl) rfl ?_ ?_
      rotate_left 2
      ·go_simp
       constructor
       ·rfl
       ·rfl
      have hbl5 := below1 w11.drew (.cells #[.int .i64 (max d 0)] 3)
      refine hK.out _ _ ⟨below_cells hbl5 _ _ hHeld.1, below_cells hbl5 _ _ hHeld.2⟩ (fun hHeld3 => ?_)
      clear hK K
      refine norm_ (a' := ?_) ?_ ?_
      rotate_left
      ·show Act.put _ (some 81) _ = _
       simp only [Act.put, List.setIfInBounds_toArray, List.set_cons_zero, List.set_cons_succ, i64_w, i32_w]
       rfl
      refine one_ (i := 8) (N := some 82) #[true, true, true, true, true, true, true, true, true, false, false] rfl rfl (one_of HT_.out (by kernel_rfl)) (by decide) (fun K hK => ?_)
      refine Kd.R_append_step (Kd.int .i64) (w0 := w9) (W := w11.drew) S (by rfl) (.tmp 75) (.tmp 81) 31 3 (.int .i64 0) 8 rfl Tryz.underlying31 info3 rfl (by decide) (by decide) (.slice Avh q cvh) (hs.take q) (max d 0) [.int .i64 (max d 0)] (fun _ => True) (fun _ => False) rfl rfl rfl (fun _ h => h.elim) (fun _ _ => trivial) HRH1.out HB1'.out (HSZ.out ▸ HBB1.out.size) (by rw [hql]; omega) ?_
      intro u1 w13 hr13 hb13 hg13 hat13
      obtain ⟨A5, c5, hu5⟩ := Kd.R_slice hr13
      rw [List.length_append, hql, List.length_singleton] at hu5
      subst hu5
      have hs13 : w13.heap[S]? = some (.cells #[.slice Avh q cvh, vr] 34 (0, 0)) := (hg13.block S (blk_lt HNS1.out) (Kd.R_ne HRH1.out HNS1.out (by decide))).trans HNS1.out
      have y13 : w13.cell? ⟨S, 0, none⟩ = some (.slice Avh q cvh) := blk_cell hs13 0
      have z13 : w13.frozen? ⟨S, 0, none⟩ = false := blk_frozen hs13 0
      have kx := below_cells (HSZ.out ▸ hb13) _ _ HXD.out
      have ky := blk_lt hs13
      have HS13 := Lib.hid hs13
      have HR13 := Lib.hid hr13
      have HB13 := Lib.hid hb13
      have HQ13 := Lib.hid (Kd.R_after HRR1.out hg13 hat13)
      clear hs13 hr13 hb13 hg13 hat13
      refine hK.out _ _ ⟨kx, y13⟩ (fun hHeld4 => ?_)
      clear hK K
      refine norm_ (a' := ?_) ?_ ?_
      rotate_left
      ·show Act.put _ (some 82) _ = _
       simp only [Act.put, List.setIfInBounds_toArray, List.set_cons_zero, List.set_cons_succ, i64_w, i32_w]
       rfl
      refine pure_ (i := 9) (N := some 83) (v := ?_) (a' := ?_) #[true, true, true, true, true, true, true, true, true, true, false] rfl rfl (any_of HT_.out (by kernel_rfl)) (fun _ _ _ h => h) (Or.inl ⟨by rfl, ?_⟩) ?_ ?_
      rotate_left
      ·intro w'
       go_simp
       with_reducible rfl
      rotate_left
      ·simp only [Act.put, List.setIfInBounds_toArray, List.set_cons_zero, List.set_cons_succ, i64_w, i32_w]
       rfl
      refine last_ (i := 10) (N := none) #[true, true, true, true, true, true, true, true, true, true, true] rfl rfl (one_of HT_.out (by kernel_rfl)) (by decide) (fun K hK => ?_)
      refine skip_ (w1 := ?_) (by rfl) rfl ?_ ?_
      rotate_left
      ·go_simp
       rfl
      refine hK.out _ _ ?_
      clear hK K
      refine done_ (done_of HT_.out (by kernel_rfl)) ?_
      clear hHeld hHeld2 hHeld3 hHeld4 hbl5
      all_goals
       have HN2 := Lib.hid (show (w13.setCell ⟨S, 0, none⟩ (.slice A5 (q + 1) c5)).heap[S]? = some (.cells #[.slice A5 (q + 1) c5, vr] 34 (0, 0)) from blk_put HS13.out 0 (.slice A5 (q + 1) c5) rfl)
       have HRH2 := Lib.hid (Kd.R_set HR13.out HS13.out (by decide) 0 (.slice A5 (q + 1) c5))
       have HRR2 := Lib.hid (Kd.R_set HQ13.out HS13.out (by decide) 0 (.slice A5 (q + 1) c5))
       have HB14 := Lib.hid (HB13.out.setCell (p := ⟨S, 0, none⟩) (Nat.le_refl _) (.slice A5 (q + 1) c5))
       clear HS13 HR13 HB13 HQ13 hx y0 y13 z13 kx ky ky0 hhS HT HNS1 HRH1 HRR1 HBB1 HB1' HFB1
       generalize World.setCell _ _ _ = w14 at HN2 HRH2 HRR2 HB14 ⊢
       obtain ⟨M3, hM3⟩ : ∃ M3, w14.heap.size = M3 := ⟨_, rfl⟩
       have HM3 := Lib.hid hM3
       have hSM : S < M3 := hM3 ▸ blk_lt HN2.out
       clear hM3
       have hrowl : (rows.getD q []).length = r := by rw [HFL.out.wa q (by omega), HRL.out]
       have hb9 : Below w9.heap.size w9 w14 := by rw [HSZ.out]; exact HB14.out
       have c1 := blk_cell ((hb9.block _ (blk_lt FBr.out)).trans FBr.out) 1
       simp only [List.getElem?_toArray, List.getElem?_cons_succ, List.getElem?_cons_zero] at c1
       clear hb9
       go_wp2_with fail
       clear c1
       go_loopw [20, 21] (fun v i wr => ∃ k : Nat, k ≤ r ∧ i = .int .i64 k ∧ (Kd.int .i64).R 3 wr M3 (fun _ => True) v ((rows.getD q []).take k) ∧ Below M3 w14 wr) (fun _ i _ => r - (intOf i).toNat)
       case atStart => exact ⟨0, by omega, rfl, Kd.R_nil _ _ _ _ _, HM3.out ▸ Below.refl _ _⟩
       case round =>
        obtain ⟨k, hk, rfl, hl0, hb⟩ := hrel
        have HL := Lib.hid hl0
        have HBL := Lib.hid hb
        have HBX := Lib.hid (show Below S w9 wr from HB14.out.trans (hb.mono (by omega)))
        have hb9 : Below w9.heap.size w9 wr := by rw [HSZ.out]; exact HBX.out
        have c1 := blk_cell ((hb9.block _ (blk_lt FBr.out)).trans FBr.out) 1
        simp only [List.getElem?_toArray, List.getElem?_cons_succ, List.getElem?_cons_zero] at c1
        have HB9 := Lib.hid hb9
        clear hl0 hb hb9
        have htl : ((rows.getD q []).take k).length = k := by rw [List.length_take]; omega
        obtain ⟨Al, cl, hle⟩ := Kd.R_slice HL.out
        rw [htl] at hle
        subst hle
        by_cases hlk : k < r
        ·have hkf : (k : Int) < f.f1 := by have := HPR.out.2.1; omega
         have hkr : k < ress.length := by rw [HRL.out]; exact hlk
         obtain ⟨ed, R1, m1, hEd, y1, _, hRC1⟩ := at_L1 HRC.out (k : Int) (by omega) (by omega)
         have er1 : rd_L1 ress (k : Int) = ress.getD k [] := by rw [rd_L1, Int.toNat_natCast]
         have hrf := HRF.out k hkr
         have hrn := hrf.len
         rw [er1, hrn] at y1 hRC1
         rw [Int.toNat_natCast] at y1
         obtain ⟨gd, hGd, z1⟩ := Kd.at_int hRC1 (a : Int) (by omega) (by omega)
         obtain ⟨d2, hd2⟩ : ∃ d2, (ress.getD k []).getD a 9 = d2 := ⟨_, rfl⟩
         have e2 : rd (ress.getD k []) (a : Int) = d2 := by rw [← hd2, getD_90 hrn han]; rfl
         rw [e2, Int.toNat_natCast] at z1
         have hdw : InW ((ress.getD k []).getD a 9) := hrf.clo.inw a
         have hd3 : -1 ≤ d2 := by rw [hd2] at hdw; unfold InW at hdw; omega
         have HTK2 := Lib.hid (show (rows.getD q []).take (k + 1) = (rows.getD q []).take k ++ [max d2 0] by
          rw [List.take_succ_eq_append_getElem (by omega)]
          have := HFL.out.wr q (by omega) k hkr
          rw [HA.out, hd2, List.getD_eq_getElem?_getD (l := rows.getD q []), List.getElem?_eq_getElem (by omega)] at this
          simp only [Option.getD_some] at this
          rw [this])
         have HT2 := Lib.hid (told_any' d2 hd3 wr)
         replace y1 := below_cells HB9.out _ _ y1
         replace z1 := below_cells HB9.out _ _ z1
         subst hEd
         subst hGd
         clear er1 hrf hrn hRC1 hd2 e2 hdw
         go_wp2_with fail
         refine HT2.out.mono ?_
         rintro e w15 ⟨rfl, rfl⟩
         go_wp2_with (first | (at_builtin; refine Kd.R_append (Kd.int .i64) (w0 := w14) (W := wr) M3 rfl (.tmp 90) (.tmp 99) 31 3 (.int .i64 0) 8 rfl Tryz.underlying31 info3 rfl (by decide) (by decide) (.slice Al k cl) ((rows.getD q []).take k) (max d2 0) [.int .i64 (max d2 0)] (fun _ => True) (fun _ => False) rfl rfl rfl (fun _ h => h.elim) (fun _ _ => trivial) HL.out HBL.out (HM3.out ▸ HBL.out.size) (by rw [htl]; omega) ?_; intro u1 w16 hr16 hb16 hg16 hat16; have HL6 := Lib.hid hr16; have HB16 := Lib.hid hb16; clear hr16 hb16 hg16 hat16))
         go_roundw
         case rel => exact ⟨k + 1, by omega, by go_num, by rw [HTK2.out]; exact HL6.out, HB16.out⟩
         case measure => simp [intOf]; omega
        ·obtain rfl : r = k := by omega
         have hrl : (rows.take q).length = q := by rw [List.length_take]; omega
         obtain ⟨Avr, cvr, hvr⟩ := Kd.R_slice HRR2.out
         rw [hrl] at hvr
         subst hvr
         have hbl : Below w14.heap.size w14 wr := HM3.out ▸ HBL.out
         have hns := (hbl.block _ (blk_lt HN2.out)).trans HN2.out
         have y1 : wr.cell? ⟨S, 1, none⟩ = some (.slice Avr q cvr) := blk_cell hns 1
         have HNW := Lib.hid hns
         have HRRw := Lib.hid (Kd.R_below HRR2.out hbl)
         have HRHw := Lib.hid (Kd.R_below HRH2.out hbl)
         have hlx := HL.out
         rw [show (rows.getD q []).take r = rows.getD q [] from List.take_of_length_le (by omega)] at hlx
         have HMR := Lib.hid (Kd.M_row (e := 3) (Kd.R_lower (Kd.R_mono (ok' := fun k => M3 ≤ k) (Kd.R_bound hlx) (fun k hk => hk.2.1)) (show S ≤ M3 by omega)))
         have hu1 := Kd.R_lt HRH2.out
         rw [HM3.out] at hu1
         have hu2 := Kd.R_lt HRR2.out
         rw [HM3.out] at hu2
         have HOK := Lib.hid (show ∀ k, M3 ≤ k → (True ∧ some k ≠ (Value.slice A5 (q + 1) c5).ownBlock) ∧ some k ≠ (Value.slice Avr q cvr).ownBlock from fun k hk => ⟨⟨trivial, fun e => by have := hu1 k e.symm; omega⟩, fun e => by have := hu2 k e.symm; omega⟩)
         have HMW := Lib.hid (show M3 ≤ wr.heap.size from HM3.out ▸ HBL.out.size)
         have HTR := Lib.hid (show rows.take (q + 1) = rows.take q ++ [rows.getD q []] by
          rw [List.take_succ_eq_append_getElem (by omega), List.getD_eq_getElem?_getD, List.getElem?_eq_getElem (by omega)]; rfl)
         clear hbl hns hlx hu1 hu2 c1
         have c1 := blk_cell ((HB9.out.block _ (blk_lt FBr.out)).trans FBr.out) 1
         simp only [List.getElem?_toArray, List.getElem?_cons_succ, List.getElem?_cons_zero] at c1
         have hkf : f.f1 ≤ (r : Int) := by have := HPR.out.2.1; omega
         go_wp2_with (first | (at_builtin; refine Kd.R_append (Kd.slice 3 (Kd.int .i64)) (w0 := w9) (W := wr) S rfl (.tmp 102) (.tmp 104) 32 31 (.slice none 0 0) 24 rfl Tryz.underlying32 info31 rfl (by decide) (by decide) (.slice Avr q cvr) (rows.take q) (rows.getD q []) [.slice Al r cl] (fun k => True ∧ some k ≠ (Value.slice A5 (q + 1) c5).ownBlock) (fun k => M3 ≤ k) rfl rfl HMR.out HOK.out (fun k hk => (HOK.out k (Nat.le_trans HMW.out hk)).1) HRRw.out HBX.out (HSZ.out ▸ HB9.out.size) (by rw [hrl]; omega) ?_; intro u1 w16 hr16 hb16 hg16 hat16; obtain ⟨A6, c6, hu6⟩ := Kd.R_slice hr16; rw [List.length_append, hrl, List.length_singleton] at hu6; subst hu6; have hs16 : w16.heap[S]? = some (.cells #[.slice A5 (q + 1) c5, .slice Avr q cvr] 34 (0, 0)) := (hg16.block S (blk_lt HNW.out) (Kd.R_ne HRRw.out HNW.out (by decide))).trans HNW.out; have yy : w16.cell? ⟨S, 1, none⟩ = some (.slice Avr q cvr) := blk_cell hs16 1; have zz : w16.frozen? ⟨S, 1, none⟩ = false := blk_frozen hs16 1; have HS16 := Lib.hid hs16; have HR16 := Lib.hid hr16; have HB16 := Lib.hid hb16; have HH16 := Lib.hid (Kd.R_over' HRHw.out (Kd.R_typed HRRw.out) (by decide) hg16); clear hs16 hr16 hb16 hg16 hat16))
         go_roundw
         case rel => exact ⟨q + 1, .slice A5 (q + 1) c5, .slice A6 (q + 1) c6, by omega, by go_num, blk_put HS16.out 1 (.slice A6 (q + 1) c6) rfl, by rw [HTK.out]; exact Kd.R_set HH16.out HS16.out (by decide) 1 _, by rw [HTR.out]; exact Kd.R_set HR16.out HS16.out (by decide) 1 _, HB16.out.setCell (p := ⟨S, 1, none⟩) (Nat.le_refl _) _⟩
         case measure => simp [intOf]; omega
     ·obtain rfl : p = q := by omega
      have hth : hs.take p = hs := List.take_of_length_le (by omega)
      have htr : rows.take p = rows := List.take_of_length_le (by omega)
      rw [hth] at HRH
      rw [htr] at HRR
      obtain ⟨Avh, cvh, rfl⟩ := Kd.R_slice HRH.out
      obtain ⟨Avr, cvr, rfl⟩ := Kd.R_slice HRR.out
      have hqf : f.f0 ≤ (p : Int) := by have := HPR.out.1; omega
      have y0 := blk_cell HNS.out 0
      have y1 := blk_cell HNS.out 1
      have hG := (HBB.out.block _ (blk_lt Gr.out)).trans Gr.out
      have HGw := Lib.hid hG
      have z0 := blk_frozen hG 0
      have z1 := blk_frozen hG 1
      have g0 := blk_cell hG 0
      have g1 := blk_cell hG 1
      simp only [List.getElem?_toArray, List.getElem?_cons_succ, List.getElem?_cons_zero] at y0 y1 g0 g1
      clear hG hth htr
      go_upto_region 25 with (fail)
      have n1 : N + 1 < wr.heap.size := blk_lt HGw.out
      have n2 : S < wr.heap.size := blk_lt HNS.out
      go_region
      go_wp2_with fail
      have k1 := blk_put (blk_put HGw.out 0 (.slice Avh p cvh) rfl) 1 (.slice Avr p cvr) rfl
      have e0 := blk_cell k1 0
      have e1 := blk_cell k1 1
      simp only [List.setIfInBounds_toArray, List.set_cons_zero, List.set_cons_succ, List.getElem?_toArray, List.getElem?_cons_succ, List.getElem?_cons_zero] at e0 e1
      have k0 := blk_put HGw.out 0 (.slice Avh p cvh) rfl
      have hNS : N ≤ S := by omega
      have hbw : Below N w wr := HB8.out.trans (HB.out.mono hNS)
      refine bodyPost_ret (v := .tuple #[.slice Ab n cb, .agg #[.slice Avh p cvh, .slice Avr p cvr], .int .i64 0]) ?_ rfl (.inl ⟨HG.out, _, _, _, rfl, ?_, ?_, ?_, ?_⟩)
      ·have e0' : (World.drew ((wr.setCell ⟨N + 1, 0, none⟩ (.slice Avh p cvh)).setCell ⟨N + 1, 1, none⟩ (.slice Avr p cvr))).cell? ⟨N + 1, 0, none⟩ = _ := e0
       have e1' : (World.drew ((wr.setCell ⟨N + 1, 0, none⟩ (.slice Avh p cvh)).setCell ⟨N + 1, 1, none⟩ (.slice Avr p cvr))).cell? ⟨N + 1, 1, none⟩ = _ := e1
       simp [results, Tryz.f12, go_sem, e0', e1']
      ·rw [HN.out]
       exact Kd.R_below (Kd.R_set (Kd.R_set (Kd.R_below HEV8.out HBB.out) HGw.out (by decide) 0 _) k0 (by decide) 1 _) (below_drew (Below.refl _ _))
      ·rw [HN.out]
       have hrh := HRH.out
       rw [hhsl] at hrh
       exact Kd.R_below (Kd.R_set (Kd.R_set (Kd.R_lower hrh hNS) HGw.out (by decide) 0 _) k0 (by decide) 1 _) (below_drew (Below.refl _ _))
      ·rw [HN.out]
       have hrr := HRR.out
       rw [hhsl, hrwl] at hrr
       exact Kd.R_below (Kd.R_set (Kd.R_set (Kd.R_mono (Kd.R_lower hrr hNS) (fun _ _ => trivial)) HGw.out (by decide) 0 _) k0 (by decide) 1 _) (below_drew (Below.refl _ _))
      ·rw [HN.out]
       exact below_drew ((hbw.setCell (p := ⟨N + 1, 0, none⟩) (Nat.le_succ _) _).setCell (p := ⟨N + 1, 1, none⟩) (Nat.le_succ _) _)
 ·have HB2 := Lib.hid (HB1.out.trans (hb.mono (by have := blk_lt F2.out; omega)))
  have G2 := Lib.hid ((hb.block _ (blk_lt F2.out)).trans F2.out)
  have HNG := Lib.hid hg
  clear hb HED1 HB1 F1 F2 c0 c1 hg HFU
  have c0 := blk_cell G2.out 0
  have c1 := blk_cell G2.out 1
  have z0 := blk_frozen G2.out 0
  have z1 := blk_frozen G2.out 1
  simp only [List.getElem?_toArray, List.getElem?_cons_succ, List.getElem?_cons_zero] at c0 c1
  go_wp2_with fail
  have k0 := blk_put G2.out 0 (.slice none 0 0) rfl
  have k1 := blk_put k0 1 (.slice none 0 0) rfl
  have e0 := blk_cell k1 0
  have e1 := blk_cell k1 1
  simp only [List.setIfInBounds_toArray, List.set_cons_zero, List.set_cons_succ, List.getElem?_toArray, List.getElem?_cons_succ, List.getElem?_cons_zero] at e0 e1
  refine bodyPost_ret (v := .tuple #[.slice none 0 0, .agg #[.slice none 0 0, .slice none 0 0], .int .i64 1]) ?_ rfl (.inr ⟨HNG.out, rfl, ?_⟩)
  ·simp [results, Tryz.f12, go_sem, e0, e1]
  ·rw [HN.out]
   exact (HB2.out.setCell (p := ⟨N + 1, 0, none⟩) (Nat.le_succ _) _).setCell (p := ⟨N + 1, 1, none⟩) (Nat.le_succ _) _
open Go.RowKit Go.Maps Go.Proofs.YtcbcacbbnojdjaaGreatDoorW.PrintWords Go.Proofs.YtcbcacbbnojdjaaGreatDoorW.PrintLast Go.Proofs.YtcbcacbbnojdjaaGreatDoor.PSolveFunctions
theorem eqInts_yes (A : Option Addr) (a : Nat) (B : Option Addr) (b : Nat) (xs : List Int) (w : World) (hA : (Kd.int .i64).C w A xs.length xs) (hB : (Kd.int .i64).C w B xs.length xs) (hl : xs.length ≤ 9223372036854775806) :
  Calls Tryz.prog 54 #[.slice A xs.length a, .slice B xs.length b] w fun e w' => e = .returned (.bool true) ∧ ∃ n, w' = w.drewN n := by
 have HA := Lib.hid hA
 have HB := Lib.hid hB
 clear hA hB
 go_enter Tryz.func54, Tryz.ntmps54
 go_wp2_with fail
 go_loopw [5] (fun i wr => ∃ j n : Nat, j ≤ xs.length ∧ i = .int .i64 j ∧ wr = w.drewN n) (fun i _ => xs.length - (intOf i).toNat)
 case atStart => exact ⟨0, 0, by omega, rfl, rfl⟩
 case round =>
  obtain ⟨j, nn, hj, rfl, hwr⟩ := hrel
  have HBW := Lib.hid (show Below w.heap.size w wr from hwr ▸ pw_below_drewN (Below.refl _ w) nn)
  have HWR := Lib.hid hwr
  clear hwr
  by_cases hlt : j < xs.length
  ·obtain ⟨ad, hA, x0⟩ := Kd.at_int (Kd.C_below HA.out HBW.out) (j : Int) (by omega) (by omega)
   obtain ⟨bd, hB, y0⟩ := Kd.at_int (Kd.C_below HB.out HBW.out) (j : Int) (by omega) (by omega)
   rw [Int.toNat_natCast] at x0 y0
   generalize rd xs (j : Int) = x at x0 y0
   have hne : (x != x) = false := bne_self_eq_false x
   subst hA
   subst hB
   go_upto_region 6 with (fail)
   go_quiet (fail)
   have HW3 := Lib.hid (show wr.drewN nq = w.drewN (nn + nq) by rw [HWR.out, World.drewN_drewN])
   clear x0 y0 hne
   go_wp2_with fail
   go_roundw
   case rel => exact ⟨j + 1, _, by omega, by go_num, HW3.out⟩
   case measure => simp [intOf]; omega
  ·obtain rfl : j = xs.length := by omega
   go_wp2_with fail
   go_ret
   exact ⟨rfl, nn, HWR.out⟩
theorem eqBools_yes (A : Option Addr) (a : Nat) (B : Option Addr) (b : Nat) (xs : List Bool) (w : World) (hA : Kd.bool.C w A xs.length xs) (hB : Kd.bool.C w B xs.length xs) (hl : xs.length ≤ 9223372036854775806) :
  Calls Tryz.prog 13 #[.slice A xs.length a, .slice B xs.length b] w fun e w' => e = .returned (.bool true) ∧ ∃ n, w' = w.drewN n := by
 have HA := Lib.hid hA
 have HB := Lib.hid hB
 clear hA hB
 go_enter Tryz.func13, Tryz.ntmps13
 go_wp2_with fail
 go_loopw [5] (fun i wr => ∃ j n : Nat, j ≤ xs.length ∧ i = .int .i64 j ∧ wr = w.drewN n) (fun i _ => xs.length - (intOf i).toNat)
 case atStart => exact ⟨0, 0, by omega, rfl, rfl⟩
 case round =>
  obtain ⟨j, nn, hj, rfl, hwr⟩ := hrel
  have HBW := Lib.hid (show Below w.heap.size w wr from hwr ▸ pw_below_drewN (Below.refl _ w) nn)
  have HWR := Lib.hid hwr
  clear hwr
  by_cases hlt : j < xs.length
  ·obtain ⟨ad, hA, x0⟩ := Kd.at_bool (Kd.C_below HA.out HBW.out) (j : Int) (by omega) (by omega)
   obtain ⟨bd, hB, y0⟩ := Kd.at_bool (Kd.C_below HB.out HBW.out) (j : Int) (by omega) (by omega)
   rw [Int.toNat_natCast] at x0 y0
   generalize rdOf false xs (j : Int) = x at x0 y0
   have hne : (x != x) = false := bne_self_eq_false x
   subst hA
   subst hB
   go_upto_region 6 with (fail)
   go_quiet (fail)
   have HW3 := Lib.hid (show wr.drewN nq = w.drewN (nn + nq) by rw [HWR.out, World.drewN_drewN])
   clear x0 y0 hne
   go_wp2_with fail
   go_roundw
   case rel => exact ⟨j + 1, _, by omega, by go_num, HW3.out⟩
   case measure => simp [intOf]; omega
  ·obtain rfl : j = xs.length := by omega
   go_wp2_with fail
   go_ret
   exact ⟨rfl, nn, HWR.out⟩
set_option maxRecDepth 100000 in
set_option maxHeartbeats 3200000 in
theorem eqLists_yes (A : Option Addr) (a : Nat) (B : Option Addr) (b : Nat) (xs : List (List Int)) (w : World) (hA : (Kd.slice 3 (Kd.int .i64)).C w A xs.length xs) (hB : (Kd.slice 3 (Kd.int .i64)).C w B xs.length xs) (hl : xs.length ≤ 9223372036854775806) (hs : ∀ r ∈ xs, r.length ≤ 9223372036854775806) :
  Calls Tryz.prog 55 #[.slice A xs.length a, .slice B xs.length b] w fun e w' => e = .returned (.bool true) ∧ ∃ n, w' = w.drewN n := by
 have HA := Lib.hid hA
 have HB := Lib.hid hB
 have HS := Lib.hid hs
 clear hA hB hs
 go_enter Tryz.func55, Tryz.ntmps55
 go_wp2_with fail
 go_loopw [5] (fun i wr => ∃ j n : Nat, j ≤ xs.length ∧ i = .int .i64 j ∧ wr = w.drewN n) (fun i _ => xs.length - (intOf i).toNat)
 case atStart => exact ⟨0, 0, by omega, rfl, rfl⟩
 case round =>
  obtain ⟨j, nn, hj, rfl, hwr⟩ := hrel
  have HBW := Lib.hid (show Below w.heap.size w wr from hwr ▸ pw_below_drewN (Below.refl _ w) nn)
  have HWR := Lib.hid hwr
  clear hwr
  by_cases hlt : j < xs.length
  ·obtain ⟨ad, R1, m1, hA, x0, _, hR1⟩ := at_L1 (Kd.C_below HA.out HBW.out) (j : Int) (by omega) (by omega)
   obtain ⟨bd, R2, m2, hB, y0, _, hR2⟩ := at_L1 (Kd.C_below HB.out HBW.out) (j : Int) (by omega) (by omega)
   have er : rd_L1 xs (j : Int) = xs.getD j [] := by rw [rd_L1, Int.toNat_natCast]
   have hrl := HS.out (xs.getD j []) (by rw [List.getD_eq_getElem?_getD, List.getElem?_eq_getElem hlt]; exact List.getElem_mem _)
   rw [er] at x0 y0 hR1 hR2
   rw [Int.toNat_natCast] at x0 y0
   generalize xs.getD j [] = row at x0 y0 hR1 hR2 hrl
   have HE := Lib.hid (eqInts_yes R1 m1 R2 m2 row wr.drew hR1 hR2 hrl)
   subst hA
   subst hB
   clear er hR1 hR2
   go_upto_region 6 with (fail)
   go_still_tail 8, (by kernel_rfl)
   change wpList _ _ _ _ _ wr.drew
   go_wp2_with fail
   refine HE.out.mono ?_
   rintro e w3 ⟨rfl, n3, rfl⟩
   have HW3 := Lib.hid (show (wr.drew).drewN n3 = w.drewN (nn + (1 + n3)) by
    rw [HWR.out]
    show ((w.drewN nn).drewN 1).drewN n3 = _
    rw [World.drewN_drewN, World.drewN_drewN]
    try rw [Nat.add_assoc])
   clear x0 y0
   generalize (wr.drew).drewN n3 = w4 at HW3 ⊢
   go_wp2_with fail
   go_roundw
   case rel => exact ⟨j + 1, _, by omega, by go_num, HW3.out⟩
   case measure => simp [intOf]; omega
  ·obtain rfl : j = xs.length := by omega
   go_wp2_with fail
   go_ret
   exact ⟨rfl, nn, HWR.out⟩
set_option maxRecDepth 100000 in
set_option maxHeartbeats 3200000 in
theorem eqSummary_yes (A : Option Addr) (a : Nat) (B : Option Addr) (b : Nat) (hs : List Int) (A1 : Option Addr) (a1 : Nat) (B1 : Option Addr) (b1 : Nat) (rows : List (List Int)) (w : World) (hA : (Kd.int .i64).C w A hs.length hs) (hB : (Kd.int .i64).C w B hs.length hs) (hA1 : (Kd.slice 3 (Kd.int .i64)).C w A1 rows.length rows) (hB1 : (Kd.slice 3 (Kd.int .i64)).C w B1 rows.length rows)
  (hl : hs.length ≤ 9223372036854775806) (hl1 : rows.length ≤ 9223372036854775806) (hsm : ∀ r ∈ rows, r.length ≤ 9223372036854775806) :
  Calls Tryz.prog 14 #[.agg #[.slice A hs.length a, .slice A1 rows.length a1], .agg #[.slice B hs.length b, .slice B1 rows.length b1]] w fun e w' => e = .returned (.bool true) ∧ Below w.heap.size w w' := by
 have hb2 := two_allocs w (.cells #[.slice A hs.length a, .slice A1 rows.length a1] 34) (.cells #[.slice B hs.length b, .slice B1 rows.length b1] 34)
 have HE1 := Lib.hid (fun W (hb : Below w.heap.size w W) => eqInts_yes A a B b hs W (Kd.C_below hA hb) (Kd.C_below hB hb) hl)
 have HE2 := Lib.hid (fun W (hb : Below w.heap.size w W) => eqLists_yes A1 a1 B1 b1 rows W (Kd.C_below hA1 hb) (Kd.C_below hB1 hb) hl1 hsm)
 clear hA hB hA1 hB1 hsm
 go_enter Tryz.func14, Tryz.ntmps14
 go_upto_region 1 with (fail)
 have g1 := alloc_first w #[.slice A hs.length a, .slice A1 rows.length a1] 34 (.cells #[.slice B hs.length b, .slice B1 rows.length b1] 34)
 have g2 := alloc_second w (.cells #[.slice A hs.length a, .slice A1 rows.length a1] 34) #[.slice B hs.length b, .slice B1 rows.length b1] 34
 obtain ⟨N, hN⟩ : ∃ N, w.heap.size = N := ⟨_, rfl⟩
 have HB2 := Lib.hid hb2
 have HN := Lib.hid hN
 rw [hN] at g1 g2 ⊢
 clear hN hb2
 generalize World.alloc _ _ = W2 at HB2 g1 g2 ⊢
 have c0 := blk_cell g1 0
 have c1 := blk_cell g1 1
 have d0 := blk_cell g2 0
 have d1 := blk_cell g2 1
 simp only [List.getElem?_toArray, List.getElem?_cons_succ, List.getElem?_cons_zero] at c0 c1 d0 d1
 have hsz := blk_lt g2
 clear g1 g2
 go_wp2_with fail
 refine (HE1.out W2 HB2.out).mono ?_
 rintro e w3 ⟨rfl, n3, rfl⟩
 have y1 : (W2.drewN n3).cell? _ = _ := c1
 have z1 : (W2.drewN n3).cell? _ = _ := d1
 have HB3 := Lib.hid (pw_below_drewN HB2.out n3)
 clear c0 c1 d0 d1 HE1 HB2
 generalize W2.drewN n3 = w4 at y1 z1 HB3 ⊢
 go_wp2_with fail
 refine (HE2.out w4 HB3.out).mono ?_
 rintro e w5 ⟨rfl, n5, rfl⟩
 have HB5 := Lib.hid (pw_below_drewN HB3.out n5)
 clear y1 z1 HE2 HB3
 generalize w4.drewN n5 = w6 at HB5 ⊢
 go_wp2_with fail
 go_ret
 exact ⟨rfl, HN.out ▸ HB5.out⟩
end Go.Proofs.YtcbcacbbnojdjaaGreatDoor
