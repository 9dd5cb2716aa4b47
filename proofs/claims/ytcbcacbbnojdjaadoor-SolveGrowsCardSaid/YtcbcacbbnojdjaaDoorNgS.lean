/-
  Part S of what the law's proof needs: walks of the program's functions and the plain laws of what they tell. No condition.
-/
import Derived.Test.YtcbcacbbnojdjaaDoorNgQ
import Derived.Test.YtcbcacbbnojdjaaDoorNgC
import Derived.Test.YtcbcacbbnojdjaaDoorNgR
import Derived.Test.YtcbcacbbnojdjaaDoorNgP
namespace Go.Proofs.YtcbcacbbnojdjaaDoor
open Go.RowKit Go.Maps Go.Proofs.YtcbcacbbnojdjaaDoorW.PrintWords Go.Proofs.YtcbcacbbnojdjaaDoorW.PrintLast Go.Proofs.YtcbcacbbnojdjaaDoor.PSolveMonotone
set_option linter.unusedVariables false
set_option linter.unusedSimpArgs false
def funcPost (f : Fun) (E : List Edg) (w : World) (e : Ending) (w' : World) : Prop :=
  ∃ b esc hb ob bs hs rows, e = .returned (.tuple #[.slice (some ⟨b, 0, none⟩) (locsF f) (locsF f), .agg #[.slice (some ⟨hb, 0, none⟩) f.f0.toNat f.f0.toNat, .slice (some ⟨ob, 0, none⟩) f.f0.toNat f.f0.toNat], .int .i64 0]) ∧ w.heap.size ≤ b ∧ BoolsAt w' b esc ∧ FuncIs f E esc hs rows ∧ SumAt w' w.heap.size hb ob f.f1.toNat f.f0.toNat bs hs rows ∧ Below w.heap.size w w'
theorem one_row (x : Int) (W : World) : (Kd.int .i64).C (W.alloc (.cells #[.int .i64 x] 3)) (some ⟨W.heap.size, 0, none⟩) 1 [x] := by
  have h : (Kd.int .i64).R 3 (W.alloc (.cells #[.int .i64 x] 3)) W.heap.size (fun _ => True) (.slice (some ⟨W.heap.size, 0, none⟩) 1 1) [x] :=
    ⟨fun _ _ => trivial, OwnRow.lit (ps := [x]) (inner := [.int .i64 x]) W W.heap.size ⟨rfl, fun j q hq => by
      have hj := (List.getElem?_eq_some_iff.1 hq).1
      obtain rfl : j = 0 := by simp at hj; exact hj
      obtain rfl : x = q := by simpa using hq
      rfl⟩ (Nat.le_refl _) (by simp)⟩
  exact (Kd.R_reads' h).2.2
theorem add_at (rb i : Nat) : Addr.add ⟨rb, 0, none⟩ i = ⟨rb, i, none⟩ := by
  simp [Addr.add]
  exact fun e => e.symm
theorem SumAt.drewn {W : World} {base hb ob r p : Nat} {bs : List Nat} {hs : List Int} {rows : List (List Int)} (h : SumAt W base hb ob r p bs hs rows) : SumAt W.drew base hb ob r p bs hs rows := ⟨h.hn, h.ho, h.lb, h.rw_, h.nd, h.nh, h.l0, h.l1, h.l2⟩
theorem SumAt.apart {W : World} {base hb ob r p sb : Nat} {bs : List Nat} {hs : List Int} {rows : List (List Int)} {cs : Array Value} (h : SumAt W base hb ob r p bs hs rows) (hs : W.heap[sb]? = some (.cells cs 33 (0, 0))) : sb ≠ hb ∧ ∀ i, i < rows.length → sb ≠ bs.getD i 0 := by
  refine ⟨?_, fun i hi => ?_⟩
  · rintro rfl
    have h2 : W.heap[sb]? = _ := h.hn
    rw [hs] at h2
    injection h2 with h2
    injection h2 with _ h2 _
    exact absurd h2 (by decide)
  · intro e
    have h2 : W.heap[bs.getD i 0]? = _ := h.rw_ i hi
    rw [← e, hs] at h2
    injection h2 with h2
    injection h2 with _ h2 _
    exact absurd h2 (by decide)
theorem TellsAt.below {w w1 : World} (h : TellsAt w) (hb : Below w.heap.size w w1) : TellsAt w1 := fun k hk => ⟨below_cells hb _ _ (h k hk).1, below_cells hb _ _ (h k hk).2⟩
set_option maxRecDepth 100000 in
set_option maxHeartbeats 12800000 in
theorem func_any (G : Int) (A : Option Addr) (c : Nat) (fs : List Fun) (fi : Nat) (SA : Option Addr) (sums : List Smm) (sl : Nat) (w : World) (hC : k45.C w A fs.length fs) (hcap : fs.length ≤ c) (hS : k33.C w SA sums.length sums) (hscap : sums.length ≤ sl) (hlen : fs.length ≤ 2147483647)
    (hcode : ∀ f ∈ fs, f.f3.length ≤ 2147483646 ∧ ∀ x ∈ f.f3, x.f5.length ≤ 2147483647 ∧ x.f6.length ≤ 2147483647) (hsl : sums.length = fs.length) (hsm : ∀ s ∈ sums, s.f0.length ≤ 2147483646 ∧ ∀ r ∈ s.f1, r.length ≤ 2147483647) (hall : AllOk G fs) (hfi : fi < fs.length)
    (f : Fun) (hf : f = fs.getD fi zF) (hfit : ∀ x ∈ f.f3, x.f0 = 11 → fitsB (fs.getD x.f4.toNat zF) (sums.getD x.f4.toNat zS) = true) (htl : TellsAt w) :
    Calls Tryd.prog 10 #[.agg #[.int .i64 G, .slice A fs.length c], .int .i64 fi, .slice SA sums.length sl] w (funcPost f (allE f sums (1 + f.f1 + f.f2) f.f3.length).1 w) := by
  have hH := hall.hd fi hfi
  rw [← hf] at hH
  have hr0 := hH.r0; have hr1 := hH.r1; have hp0 := hH.p0; have h8 := hH.p1
  have hp1 : f.f0 ≤ f.f2 ∧ f.f0 ≤ 8 := by split at h8 <;> omega
  have hv := hH.v1
  have hn0 := hH.n0; have hn1 := hH.n1
  clear h8
  have hrb : rightB G fs (fi : Int) = true := by
    unfold rightB
    rw [Int.toNat_natCast, decide_eq_true (by omega), small_ok hall fi hfi, callsIn_all (fun j hj h11 => calls_in hall fi hfi j hj h11)]
    rfl
  have hio : ∀ x ∈ f.f3, InsOk sums x := by
    intro x hx
    obtain ⟨k, hk, rfl⟩ := List.getElem_of_mem hx
    have hI := hall.ins fi hfi k (by rw [← hf]; exact hk)
    rw [← hf, List.getD_eq_getElem?_getD, List.getElem?_eq_getElem hk] at hI
    exact insOk_of hI hH hall.hd hsl (hfit _ hx)
  have hEok := all_ok hall fi hfi f hf hsl hfit f.f3.length (Nat.le_refl _)
  have hEl := allE_length f sums (1 + f.f1 + f.f2) hio f.f3.length (Nat.le_refl _)
  have hnl := calls_news f.f3 f.f3.length
  have hloc : (locsF f : Int) = 1 + f.f1 + f.f2 + newsTo f.f3 f.f3.length := by unfold locsF; omega
  have HSL := Lib.hid hsl
  have HC := Lib.hid hC
  have HS := Lib.hid hS
  have HF := Lib.hid hf
  have HEOK := Lib.hid hEok
  have HHH := Lib.hid hH
  have HED := Lib.hid (fun (W : World) (hC : k45.C W A fs.length fs) (hS : k33.C W SA sums.length sums) (htl : TellsAt W) => edges_any G A c fs fi SA sums sl W hC hcap hS hscap hlen hcode hsl hsm hrb f (by rw [Int.toNat_natCast]; exact hf) hfit ⟨hr0, hr1⟩ ⟨by omega, hv⟩ hio (by omega) htl)
  obtain ⟨E, hE⟩ : ∃ E, (allE f sums (1 + f.f1 + f.f2) f.f3.length).1 = E := ⟨_, rfl⟩
  rw [hE] at HEOK HED hEl ⊢
  clear hE
  have HTL := Lib.hid htl
  clear hC hS hf hfit hH hEok hio hrb hsm hcode htl hall hsl
  go_enter Tryd.func10, Tryd.ntmps10
  go_upto_region 1 with (fail)
  have hb0 := (below1 w (.cells #[.int .i64 G, .slice A fs.length c] 24)).alloc (by simp) (.cells #[.slice none 0 0, .slice none 0 0] 33)
  have f1 := alloc_first w #[.int .i64 G, .slice A fs.length c] 24 (.cells #[.slice none 0 0, .slice none 0 0] 33)
  have f2 := alloc_second w (.cells #[.int .i64 G, .slice A fs.length c] 24) #[.slice none 0 0, .slice none 0 0] 33
  have HLOC := Lib.hid hloc
  have HEL := Lib.hid hEl
  have HNL := Lib.hid hnl
  clear hloc hEl hnl
  have HED1 := Lib.hid (HED.out _ (Kd.C_below HC.out hb0) (Kd.C_below HS.out hb0) (HTL.out.below hb0))
  obtain ⟨N, hN⟩ : ∃ N, w.heap.size = N := ⟨_, rfl⟩
  have HN := Lib.hid hN
  rw [hN] at hb0 f1 f2 ⊢
  clear hN HED
  generalize World.alloc _ _ = W1 at hb0 f1 f2 HED1 ⊢
  have HB1 := Lib.hid hb0
  have F1 := Lib.hid f1
  have F2 := Lib.hid f2
  clear hb0 f1 f2
  have c0 := blk_cell F1.out 0
  have c1 := blk_cell F1.out 1
  simp only [List.getElem?_toArray, List.getElem?_cons_succ, List.getElem?_cons_zero] at c0 c1
  go_wp2_with fail
  refine HED1.out.mono ?_
  rintro e W2 ⟨ve, rfl, hre, hb⟩
  obtain ⟨Ae, ce, hce, hve⟩ : ∃ Ae ce, E.length ≤ ce ∧ ve = Value.slice Ae E.length ce := by
    obtain ⟨A', c', h1, h2⟩ := hre.2.slice_
    exact ⟨A', c', h2, h1⟩
  subst hve
  have HCE0 := Lib.hid hce
  clear hce
  have hCE : k90.C W2 Ae E.length E := (Kd.R_reads' hre).2.2
  have f1 := (hb.block _ (blk_lt F1.out)).trans F1.out
  have f2 := (hb.block _ (blk_lt F2.out)).trans F2.out
  have HB2 := Lib.hid (HB1.out.trans (hb.mono (by have := blk_lt F2.out; omega)))
  have G1 := Lib.hid f1
  have G2 := Lib.hid f2
  have HCE := Lib.hid hCE
  clear hre hb f1 f2 hCE HED1 HB1 F1 F2 c0 c1
  have c1 := blk_cell G1.out 1
  simp only [List.getElem?_toArray, List.getElem?_cons_succ, List.getElem?_cons_zero] at c1
  obtain ⟨ad, A3, c3, hA, e0, e1, e2, e3, hc3, hC3⟩ := at_T45 (Kd.C_below HC.out (HN.out ▸ HB2.out)) (fi : Int) (by omega) (by omega)
  have hf' : rd_T45 fs (fi : Int) = f := by rw [rd_T45, Int.toNat_natCast]; exact HF.out.symm
  rw [hf', Int.toNat_natCast] at e0 e1 e2 e3
  rw [hf'] at hc3 hC3
  subst hA
  have HC3 := Lib.hid hC3
  clear hf' hC3
  go_upto_region 5 with (fail)
  have hsz2 : N + 1 < W2.heap.size := blk_lt G2.out
  have hb3 := below1 W2 (.cells #[.int .i64 f.f0, .int .i64 f.f1, .int .i64 f.f2, .slice A3 f.f3.length c3] 45)
  have hn3 := alloc_new W2 (.cells #[.int .i64 f.f0, .int .i64 f.f1, .int .i64 f.f2, .slice A3 f.f3.length c3] 45)
  have hC3 := Kd.C_below HC3.out hb3
  have hE3 := Kd.C_below HCE.out hb3
  have hG3 := (hb3.block _ (blk_lt G2.out)).trans G2.out
  have hB3 := HB2.out.trans (hb3.mono (by omega))
  obtain ⟨fb, hfb⟩ : ∃ fb, W2.heap.size = fb := ⟨_, rfl⟩
  rw [hfb] at hn3 hsz2 ⊢
  generalize World.alloc _ _ = W3 at hb3 hn3 hC3 hE3 hG3 hB3 ⊢
  clear hb3 hfb c1 e0 e1 e2 e3 HC3 HCE G1 G2 HB2
  have hL := locs_any f A3 c3 W3.drew (show k52.C W3.drew A3 f.f3.length f.f3 from hC3) hc3 ⟨hr0, hr1⟩ ⟨by omega, hv⟩ (by omega)
  have HLC := Lib.hid hL
  have HFB := Lib.hid hn3
  have HC3 := Lib.hid hC3
  have HE3 := Lib.hid hE3
  have HG3 := Lib.hid hG3
  have HB3 := Lib.hid hB3
  clear hL hn3 hC3 hE3 hG3 hB3
  have c0 := blk_cell HFB.out 0
  have c1 := blk_cell HFB.out 1
  have c2 := blk_cell HFB.out 2
  have c3' := blk_cell HFB.out 3
  simp only [List.getElem?_toArray, List.getElem?_cons_succ, List.getElem?_cons_zero] at c0 c1 c2 c3'
  have y0 := c0
  have y1 := c1
  have y2 := c2
  have y3 := c3'
  go_region_held3 (fun w' => w'.cell? ⟨fb, 0, none⟩ = some (.int .i64 f.f0) ∧ w'.cell? ⟨fb, 1, none⟩ = some (.int .i64 f.f1) ∧ w'.cell? ⟨fb, 2, none⟩ = some (.int .i64 f.f2) ∧ w'.cell? ⟨fb, 3, none⟩ = some (.slice A3 f.f3.length c3))
    (first | (go_keep; done) | exact ⟨k0, k1, k2, k3⟩)
    (first | (go_at_call 24; refine HLC.out.mono ?_; rintro e w4 ⟨rfl, hb4⟩; have k0 := below_cells hb4 _ _ y0; have k1 := below_cells hb4 _ _ y1; have k2 := below_cells hb4 _ _ y2; have k3 := below_cells hb4 _ _ y3; have HB4 := Lib.hid hb4; clear hb4))
  obtain ⟨p, hp⟩ : ∃ p : Nat, f.f0 = p := ⟨f.f0.toNat, by omega⟩
  obtain ⟨r, hr⟩ : ∃ r : Nat, f.f1 = r := ⟨f.f1.toNat, by omega⟩
  have hp8 : p ≤ 8 := by omega
  have hr4 : r ≤ 4 := by omega
  have hrn : 1 + r ≤ locsF f := by have := HLOC.out; omega
  have hln : locsF f ≤ 4400 := by have := HLOC.out; have := HNL.out; omega
  have hpn : 1 + r + p ≤ locsF f := by have := HLOC.out; omega
  have hb4 : Below W3.heap.size W3 w4 := Below.trans (below_drew (Below.refl _ W3)) HB4.out
  have hs3 := hb4.size
  have hb5 := below1 w4 (.cells #[.int .i64 (locsF f), .int .i64 f.f1, .slice Ae E.length ce] 66)
  have hn5 := alloc_new w4 (.cells #[.int .i64 (locsF f), .int .i64 f.f1, .slice Ae E.length ce] 66)
  have h35 := hb4.trans (hb5.mono hs3)
  have hF5 := (h35.block _ (blk_lt HFB.out)).trans HFB.out
  have hG5 := (h35.block _ (blk_lt HG3.out)).trans HG3.out
  have hE5 := Kd.C_below HE3.out h35
  have hC5 := Kd.C_below HC3.out h35
  have hB5 := HB3.out.trans (h35.mono (by have := blk_lt HFB.out; omega))
  obtain ⟨g, hg⟩ : ∃ g, w4.heap.size = g := ⟨_, rfl⟩
  have hfg : fb < g := by have := blk_lt HFB.out; omega
  rw [hg] at hn5 ⊢
  clear k0 k1 k2 k3 y0 y1 y2 y3 c0 c1 c2 c3' HLC HB4 hb4 hb5 h35 hg HFB HG3 HE3 HC3 HB3 hs3
  rename_i hHeld
  clear hHeld
  rw [hr] at hF5 hn5 hG5 hE5 hC5 hB5 ⊢
  rw [hp] at hF5 ⊢
  generalize World.alloc _ _ = W5 at hn5 hF5 hG5 hE5 hC5 hB5 ⊢
  have HNET := Lib.hid (show NetAt W5 g (locsF f) r Ae E ce from hn5)
  have HF5 := Lib.hid hF5
  have HG5 := Lib.hid hG5
  have HE5 := Lib.hid hE5
  have HC5 := Lib.hid hC5
  have HB5 := Lib.hid hB5
  have HPR := Lib.hid (show f.f0 = p ∧ f.f1 = r ∧ 1 + r + (p : Int) ≤ 1 + f.f1 + f.f2 ∧ f.f2 ≤ 255 from ⟨hp, hr, by omega, hv⟩)
  clear hn5 hF5 hG5 hE5 hC5 hB5 hp hr hr0 hr1 hp0 hp1 hv hn0 hn1
  have c1 := blk_cell HF5.out 1
  simp only [List.getElem?_toArray, List.getElem?_cons_succ, List.getElem?_cons_zero] at c1
  have hmk := print_make_of 31 30 (.slice none 0 0) 24 Tryd.underlying31 info30 rfl (by decide) r (by omega)
  go_upto_region 7 with (fail)
  have hb6 := below1 W5 (.cells (madeCells #[Value.slice none 0 0] r) 30)
  have hn6 : ResAt (W5.alloc (.cells (madeCells #[Value.slice none 0 0] r) 30)) N W5.heap.size r [] [] := ⟨by rw [made_rows]; simpa using alloc_new W5 _, rfl, fun i hi => absurd hi (by simp)⟩
  obtain ⟨rb, hrb⟩ : ∃ rb, W5.heap.size = rb := ⟨_, rfl⟩
  have HRB := Lib.hid hrb
  have hgr : g < rb := by have := blk_lt HNET.out; omega
  rw [hrb] at hb6 hn6 ⊢
  clear hrb hmk c1
  generalize World.alloc _ _ = W6 at hb6 hn6 ⊢
  have HB6 := Lib.hid hb6
  have HN6 := Lib.hid hn6
  clear hb6 hn6
  go_wp2_with fail
  go_loopw [49] (fun i wr => ∃ (j : Nat) (vs : List Value) (ress : List (List Int)), j ≤ r ∧ i = .int .i64 j ∧ vs.length = j ∧ ResAt wr N rb r vs ress ∧ (∀ k, k < ress.length → IsFrom (locsF f) E [1 + (k : Int)] (ress.getD k [])) ∧ Below rb W5 wr) (fun i _ => r - (intOf i).toNat)
  case atStart => exact ⟨0, [], [], by omega, rfl, rfl, HN6.out, fun k hk => absurd hk (by simp), HB6.out⟩
  case round =>
    clear HN6 HB6
    obtain ⟨j, vs, ress, hj, rfl, hvl, hR, hI, hB⟩ := hrel
    have HR := Lib.hid hR
    have HI := Lib.hid hI
    have HB := Lib.hid hB
    have HVL := Lib.hid hvl
    clear hR hI hB hvl
    by_cases hlt : j < r
    · have h5r : Below W5.heap.size W5 wr := HRB.out ▸ HB.out
      have hbA := below1 wr (.cells #[.int .i64 (1 + (j : Int))] 3)
      have h5A := h5r.trans (hbA.mono h5r.size)
      have HFW := fewest_any g (locsF f) r Ae ce E (some ⟨wr.heap.size, 0, none⟩) 1 [1 + (j : Int)] (wr.alloc (.cells #[.int .i64 (1 + (j : Int))] 3)) ((h5A.block _ (blk_lt HNET.out)).trans HNET.out) (Kd.C_below HE5.out h5A) HCE0.out (one_row _ _) (Nat.le_refl _) HEOK.out (fun x hx => by
        obtain rfl := List.mem_singleton.1 hx
        omega) (by omega) (by omega) (by have := HEL.out; have := HHH.out.n1; omega) (by simp)
      simp only [List.length_singleton] at HFW
      have HFV := Lib.hid HFW
      clear HFW
      have HA := Lib.hid hbA
      clear hbA h5A h5r
      go_wp2_with fail
      refine HFV.out.mono ?_
      rintro e w7 ⟨v, l, rfl, hl, hrv, hb7⟩
      obtain ⟨Ah, ch, hhc, hve⟩ : ∃ Ah ch, l.length ≤ ch ∧ v = Value.slice Ah l.length ch := by
        obtain ⟨A', c', h1, h2⟩ := hrv.2.slice_
        exact ⟨A', c', h2, h1⟩
      subst hve
      have HHC := Lib.hid hhc
      have HL := Lib.hid hl
      have hb8 := HA.out.trans (hb7.mono HA.out.size)
      have hrs : N ≤ wr.heap.size := by
        have h1 := blk_lt HR.out.hb
        omega
      have HB8 := Lib.hid hb8
      have HV := Lib.hid (Kd.R_lower hrv (Nat.le_trans hrs HA.out.size))
      clear hhc hl hb7 hb8 hrv HFV HA
      have hz := HR.out.below HB8.out
      have z0 := blk_frozen hz.hb j
      have g0 := blk_cell hz.hb j
      rw [List.getElem?_toArray, List.getElem?_append_right (by have := HVL.out; omega), List.getElem?_replicate, if_pos (by have := HVL.out; omega)] at g0
      clear hz
      go_wp2_with fail
      go_roundw
      case rel =>
        have hm := HR.out.more HB8.out HV.out (by have := HVL.out; omega)
        rw [HVL.out] at hm
        refine ⟨j + 1, vs ++ [Value.slice Ah l.length ch], ress ++ [l], by omega, by go_num, by simp [HVL.out], hm, fun k hk => ?_, ?_⟩
        · have e1 := HR.out.hl
          have e2 := HVL.out
          rw [List.length_append, List.length_singleton] at hk
          by_cases hkl : k < ress.length
          · rw [show (ress ++ [l]).getD k [] = ress.getD k [] by rw [List.getD_eq_getElem?_getD, List.getD_eq_getElem?_getD, List.getElem?_append_left hkl]]
            exact HI.out k hkl
          · obtain rfl : k = ress.length := by omega
            rw [show (ress ++ [l]).getD ress.length [] = l by simp, show ress.length = j by omega]
            exact HL.out
        · exact (HB.out.trans (HB8.out.mono (by have := blk_lt HR.out.hb; omega))).setCell (p := ⟨rb, j, none⟩) (Nat.le_refl _) _
      case measure => simp [intOf]; omega
    · obtain rfl : r = j := by omega
      clear hlt hj
      have h5r : Below W5.heap.size W5 wr := HRB.out ▸ HB.out
      have hrl : ress.length = r := by rw [← HR.out.hl]; exact HVL.out
      have HRW := Lib.hid (HR.out.rows (by omega))
      have HHP := heap_any g (locsF f) r Ae ce E (some ⟨rb, 0, none⟩) r ress wr ((h5r.block _ (blk_lt HNET.out)).trans HNET.out) (Kd.C_below HE5.out h5r) HCE0.out HRW.out (fun l hl => by
        obtain ⟨k, hk, rfl⟩ := List.getElem_of_mem hl
        have := (HI.out k hk).len
        rwa [List.getD_eq_getElem?_getD, List.getElem?_eq_getElem hk] at this) (by omega) HEOK.out (by omega) (by omega) (by omega) (by have := HEL.out; have := HHH.out.n1; omega)
      rw [hrl] at HHP
      have HHQ := Lib.hid HHP
      clear HHP
      have HRL := Lib.hid hrl
      clear hrl
      have hN0 : N ≤ W5.heap.size := by rw [HRB.out]; omega
      have HBN := Lib.hid (HB5.out.trans (h5r.mono hN0))
      have HF6 := Lib.hid ((h5r.block _ (blk_lt HF5.out)).trans HF5.out)
      have HG6 := Lib.hid ((h5r.block _ (blk_lt HG5.out)).trans HG5.out)
      have HCA := Lib.hid (Kd.C_below HC5.out h5r)
      clear h5r hN0 HB HVL HNET HE5 HC5 HF5 HG5 HB5
      go_wp2_with fail
      refine HHQ.out.mono ?_
      rintro e w7 ⟨b, esc, h, vh, rfl, hHI, hbs, hBo, hvh, hb7⟩
      obtain ⟨Ah, ch, hhc, hve⟩ : ∃ Ah ch, h.length ≤ ch ∧ vh = Value.slice Ah h.length ch := by
        obtain ⟨A', c', h1, h2⟩ := hvh.2.slice_
        exact ⟨A', c', h2, h1⟩
      have hhl := hHI.frm.len
      rw [hhl] at hve hhc
      subst hve
      have HHI := Lib.hid hHI
      have hF7 := (hb7.block _ (blk_lt HF6.out)).trans HF6.out
      have HG7 := Lib.hid ((hb7.block _ (blk_lt HG6.out)).trans HG6.out)
      have HBO := Lib.hid hBo
      have HBS := Lib.hid hbs
      have hNr1 : N + 1 < wr.heap.size := blk_lt HG6.out
      have hNr : N ≤ wr.heap.size := by omega
      have HB7 := Lib.hid (HBN.out.trans (hb7.mono hNr))
      have HR7 := Lib.hid (Kd.C_below HRW.out hb7)
      have HCD := Lib.hid (Kd.C_below HCA.out hb7)
      have hC7 := (Kd.R_reads' hvh).2.2
      rw [hhl] at hC7
      have HC7 := Lib.hid hC7
      have HHL := Lib.hid hhl
      have HF7 := Lib.hid hF7
      clear hHI hbs hBo hvh hb7 hC7 hhl hF7 HHQ HRW HCA HBN HF6 HG6 hhc
      have c0 := blk_cell HF7.out 0
      have c1 := blk_cell HF7.out 1
      have c2 := blk_cell HF7.out 2
      have c3' := blk_cell HF7.out 3
      simp only [List.getElem?_toArray, List.getElem?_cons_succ, List.getElem?_cons_zero] at c0 c1 c2 c3'
      have HLW := Lib.hid (lowest_any p r f.f2 A3 f.f3.length c3 w7 hp8 hr4)
      go_wp2_with fail
      refine HLW.out.mono ?_
      rintro e w8 ⟨hb, ob, bs, rfl, hS, hb8⟩
      clear c0 c1 c2 c3' HLW
      go_upto_region 14 with (fail)
      have hb9 := below1 w8 (.cells #[hdr p hb, hdr p ob] 33)
      have hn9 := alloc_new w8 (.cells #[hdr p hb, hdr p ob] 33)
      have hS9 := hS.below hb9
      have hB9 := hb8.trans (hb9.mono hb8.size)
      obtain ⟨sb, hsb⟩ : ∃ sb, w8.heap.size = sb := ⟨_, rfl⟩
      obtain ⟨n5, hn5⟩ : ∃ n5, w7.heap.size = n5 := ⟨_, rfl⟩
      have h58 : n5 ≤ sb := by rw [← hn5, ← hsb]; exact hb8.size
      have hf5 : fb < n5 := by rw [← hn5]; exact blk_lt HF7.out
      have hg5 : N + 1 < n5 := by omega
      rw [hsb] at hn9 ⊢
      rw [hn5] at hS9 hB9
      clear hb8 hb9 hsb hS
      have HSZ := Lib.hid hn5
      clear hn5
      generalize World.alloc _ _ = W9 at hn9 hS9 hB9 ⊢
      have HN9 := Lib.hid hn9
      have HS9 := Lib.hid hS9
      have HB9 := Lib.hid hB9
      have hF9 := (hB9.block _ hf5).trans HF7.out
      have c0 := blk_cell hF9 0
      simp only [List.getElem?_toArray, List.getElem?_cons_succ, List.getElem?_cons_zero] at c0
      clear hn9 hS9 hB9 hF9
      go_wp2_with fail
      go_loopw [71] (fun i wr => ∃ (j : Nat) (hs : List Int) (rows : List (List Int)), j ≤ p ∧ i = .int .i64 j ∧ FillAt p r h ress j hs rows ∧ SumAt wr n5 hb ob r p bs hs rows ∧ wr.heap[sb]? = some (.cells #[hdr p hb, hdr p ob] 33 (0, 0)) ∧ Below n5 w7 wr) (fun i _ => p - (intOf i).toNat)
      case atStart => exact ⟨0, _, _, by omega, rfl, FillAt.start _ _ _ _, HS9.out, HN9.out, HB9.out⟩
      case round =>
        clear HN9 HS9 HB9 c0
        obtain ⟨j, hs, rows, hj, rfl, hfi, hS, hn, hB⟩ := hrel
        have HFI := Lib.hid hfi
        have HS := Lib.hid hS
        have HSB := Lib.hid hn
        have HB := Lib.hid hB
        clear hfi hS hn hB
        by_cases hlt : j < p
        · have hF := (HB.out.block _ hf5).trans HF7.out
          have HFB := Lib.hid hF
          have c0 := blk_cell hF 0
          have c1 := blk_cell hF 1
          have c2 := blk_cell hF 2
          have c3' := blk_cell hF 3
          simp only [List.getElem?_toArray, List.getElem?_cons_succ, List.getElem?_cons_zero] at c0 c1 c2 c3'
          have hBr : Below w7.heap.size w7 wr := by rw [HSZ.out]; exact HB.out
          have hV := variable_any f A3 c3 (j : Int) wr (Kd.C_below HCD.out hBr) hc3 ⟨HHH.out.r0, HHH.out.r1⟩ HHH.out.v1 (by have := HPR.out; omega)
          rw [HPR.out.1, HPR.out.2.1, show 1 + (r : Int) + (j : Int) = ((1 + r + j : Nat) : Int) by omega] at hV
          obtain ⟨k, hk⟩ : ∃ k, k = 1 + r + j := ⟨_, rfl⟩
          have hkn : k < locsF f := by omega
          rw [← hk] at hV
          have HK := Lib.hid hk
          have HV := Lib.hid hV
          clear hV hBr hF hk
          go_wp2_with fail
          refine HV.out.mono ?_
          rintro e w10 ⟨rfl, hb10⟩
          have hsw := HB.out.size
          rw [HSZ.out] at hsw
          have HS2 := Lib.hid (HS.out.below hb10)
          have HSB2 := Lib.hid ((hb10.block _ (blk_lt HSB.out)).trans HSB.out)
          have HB2 := Lib.hid (HB.out.trans (hb10.mono hsw))
          clear c0 c1 c2 c3' HV HS HSB HB HFB hb10 hsw
          have hBr : Below w7.heap.size w7 w10 := by rw [HSZ.out]; exact HB2.out
          obtain ⟨adh, hA, hv⟩ := Kd.at_int (Kd.C_below HC7.out hBr) (k : Int) (by omega) (by omega)
          obtain ⟨x, hx⟩ : ∃ x, h.getD k 9 = x := ⟨_, rfl⟩
          have hrd : rd h (k : Int) = x := by unfold rd; rw [Int.toNat_natCast, ← getD_90 HHL.out hkn]; exact hx
          rw [hrd, Int.toNat_natCast] at hv
          have HX := Lib.hid hx
          subst hA
          clear hrd hx hBr
          have c0 := blk_cell HSB2.out 0
          have z0 := blk_frozen HS2.out.hn j
          have g0 := HS2.out.hn.at_ (i := j) (by rw [HFI.out.hl]; exact hlt)
          simp only [List.getElem?_toArray, List.getElem?_cons_succ, List.getElem?_cons_zero] at c0
          go_upto_region 18 with (fail)
          go_still_tail 9, (by kernel_rfl)
          change wpList _ _ _ _ _ w10.drew
          have HS3 := Lib.hid HS2.out.drewn
          have HSB3 := Lib.hid (show w10.drew.heap[sb]? = _ from HSB2.out)
          have HB3 := Lib.hid (below_drew HB2.out)
          have c1 : w10.drew.cell? ⟨sb, 0, none⟩ = _ := c0
          have z1 : w10.drew.frozen? ⟨hb, j, none⟩ = _ := z0
          have g1 : w10.drew.cell? ⟨hb, j, none⟩ = _ := g0
          have hv1 : w10.drew.cell? (adh.add k) = _ := hv
          clear HS2 HSB2 HB2 c0 z0 g0 hv
          generalize w10.drew = w11 at HS3 HSB3 HB3 c1 z1 g1 hv1 ⊢
          go_upto_region 19 with (fail)
          rw [show (if x < 0 then (0 : Int) else x) = max x 0 by split <;> omega]
          have hap := HS3.out.apart HSB3.out
          have hS4 := HS3.out.setH j (max x 0)
          have hs4 := (Below.heap_setCell w11 ⟨hb, j, none⟩ (.int .i64 (max x 0)) sb hap.1).trans HSB3.out
          have hB4 := HB3.out.setCell (p := ⟨hb, j, none⟩) HS3.out.l0 (.int .i64 (max x 0))
          have hR0 := HFI.out.heap hlt
          rw [← HK.out, HX.out] at hR0
          obtain ⟨m, hm⟩ : ∃ m, max x 0 = m := ⟨_, rfl⟩
          rw [hm] at hS4 hs4 hB4 hR0 ⊢
          clear hap hm c1 z1 g1 hv1 HS3 HSB3 HB3
          generalize World.setCell _ _ _ = w12 at hS4 hs4 hB4 ⊢
          have HS4 := Lib.hid hS4
          have HSB4 := Lib.hid hs4
          have HB4 := Lib.hid hB4
          have HR0 := Lib.hid hR0
          clear hS4 hs4 hB4 hR0
          go_wp2_with fail
          go_loopw [88] (fun u wr => ∃ (i : Nat) (rows' : List (List Int)), i ≤ r ∧ u = .int .i64 i ∧ RowTo p r h ress j i (hs.set j m) rows' ∧ SumAt wr n5 hb ob r p bs (hs.set j m) rows' ∧ wr.heap[sb]? = some (.cells #[hdr p hb, hdr p ob] 33 (0, 0)) ∧ Below n5 w7 wr) (fun u _ => r - (intOf u).toNat)
          case atStart => exact ⟨0, rows, by omega, rfl, HR0.out, HS4.out, HSB4.out, HB4.out⟩
          case round =>
            clear HS4 HSB4 HB4 HR0
            obtain ⟨i, rows', hi, rfl, hR1, hS, hn, hB⟩ := hrel
            have HRT := Lib.hid hR1
            have HS := Lib.hid hS
            have HSB := Lib.hid hn
            have HB := Lib.hid hB
            clear hR1 hS hn hB
            by_cases hli : i < r
            · have hBr : Below w7.heap.size w7 wr := by rw [HSZ.out]; exact HB.out
              have hrw : j < rows'.length := by rw [HRT.out.f.wl]; exact hlt
              obtain ⟨rad, A0, cc, hA, h0, hcc, hC⟩ := at_L1 (Kd.C_below HR7.out hBr) (i : Int) (by omega) (by rw [HRL.out]; omega)
              injection hA with hA
              subst hA
              have hrr : rd_L1 ress (i : Int) = ress.getD i [] := by rw [rd_L1, Int.toNat_natCast]
              have hrl : (ress.getD i []).length = locsF f := (HI.out i (by rw [HRL.out]; exact hli)).len
              rw [hrr, hrl] at h0 hcc hC
              rw [Int.toNat_natCast, add_at] at h0
              obtain ⟨adh, hA, hv⟩ := Kd.at_int hC (k : Int) (by omega) (by omega)
              obtain ⟨y, hy⟩ : ∃ y, (ress.getD i []).getD k 9 = y := ⟨_, rfl⟩
              have hrd : rd (ress.getD i []) (k : Int) = y := by unfold rd; rw [Int.toNat_natCast, ← getD_90 hrl hkn]; exact hy
              rw [hrd, Int.toNat_natCast] at hv
              have HY := Lib.hid hy
              have HCC := Lib.hid hcc
              subst hA
              clear hrd hy hBr hC hrr hrl hcc
              have c0 := blk_cell HSB.out 1
              have z0 := blk_frozen (HS.out.rw_ j hrw) i
              have hrwl := HRT.out.f.rl j hlt
              have g0 := (HS.out.rw_ j hrw).at_ (i := i) (by omega)
              have o0 := blk_cell HS.out.ho j
              have hbl : j < bs.length := by rw [HS.out.lb]; exact hrw
              have hbe : bs[j] = bs.getD j 0 := by rw [List.getD_eq_getElem?_getD, List.getElem?_eq_getElem hbl]; rfl
              rw [List.getElem?_toArray, List.getElem?_append_left (by rw [List.length_map]; exact hbl), List.getElem?_map, List.getElem?_eq_getElem hbl, Option.map_some, hbe] at o0
              simp only [List.getElem?_toArray, List.getElem?_cons_succ, List.getElem?_cons_zero] at c0
              have HRW := Lib.hid (And.intro hrw (And.intro hrwl hbl))
              obtain ⟨bj, hbj⟩ : ∃ bj, bs.getD j 0 = bj := ⟨_, rfl⟩
              rw [hbj] at o0 z0 g0
              have HBJ := Lib.hid hbj
              clear hbj hbe hbl hrw hrwl
              go_upto_region 22 with (fail)
              go_still_tail 15, (by kernel_rfl)
              change wpList _ _ _ _ _ wr.drew
              have HS3 := Lib.hid HS.out.drewn
              have HSB3 := Lib.hid (show wr.drew.heap[sb]? = _ from HSB.out)
              have HB3 := Lib.hid (below_drew HB.out)
              have c1 : wr.drew.cell? ⟨sb, 1, none⟩ = _ := c0
              have o1 : wr.drew.cell? ⟨ob, j, none⟩ = _ := o0
              have z1 : wr.drew.frozen? ⟨bj, i, none⟩ = _ := z0
              have g1 : wr.drew.cell? ⟨bj, i, none⟩ = _ := g0
              have h1 : wr.drew.cell? ⟨rb, i, none⟩ = _ := h0
              have hv1 : wr.drew.cell? (adh.add k) = _ := hv
              clear HS HSB HB c0 o0 z0 g0 h0 hv
              generalize wr.drew = w11 at HS3 HSB3 HB3 c1 z1 g1 hv1 h1 o1 ⊢
              go_upto_region 23 with (fail)
              rw [show (if y < 0 then (0 : Int) else y) = max y 0 by split <;> omega]
              have hap := HS3.out.apart HSB3.out
              have hS4 := HS3.out.setR j HRW.out.1 i (max y 0)
              have hs4 := (Below.heap_setCell w11 ⟨bs.getD j 0, i, none⟩ (.int .i64 (max y 0)) sb (hap.2 j HRW.out.1)).trans HSB3.out
              have hB4 := HB3.out.setCell (p := ⟨bs.getD j 0, i, none⟩) (HS3.out.l2 j HRW.out.2.2) (.int .i64 (max y 0))
              have hR0 := HRT.out.row hlt hli
              rw [← HK.out, HY.out] at hR0
              rw [HBJ.out] at hS4 hs4 hB4
              obtain ⟨m2, hm⟩ : ∃ m2, max y 0 = m2 := ⟨_, rfl⟩
              rw [hm] at hS4 hs4 hB4 hR0 ⊢
              clear hap hm c1 z1 g1 hv1 h1 o1 HS3 HSB3 HB3
              generalize World.setCell _ _ _ = w12 at hS4 hs4 hB4 ⊢
              have HS4 := Lib.hid hS4
              have HSB4 := Lib.hid hs4
              have HB4 := Lib.hid hB4
              have HR0 := Lib.hid hR0
              clear hS4 hs4 hB4 hR0
              go_wp2_with fail
              go_roundw
              case rel => exact ⟨i + 1, _, by omega, by go_num, HR0.out, HS4.out, HSB4.out, HB4.out⟩
              case measure => simp [intOf]; omega
            · obtain rfl : i = r := by omega
              clear hli hi
              have HFD := Lib.hid HRT.out.done
              go_wp2_with fail
              go_roundw
              case rel => exact ⟨j + 1, _, _, by omega, by go_num, HFD.out, HS.out, HSB.out, HB.out⟩
              case measure => simp [intOf]; omega
        · obtain rfl : j = p := by omega
          clear hlt hj
          have c0 := blk_cell HSB.out 0
          have c1 := blk_cell HSB.out 1
          have hG := (HB.out.block _ hg5).trans HG7.out
          have HG := Lib.hid hG
          have z0 := blk_frozen hG 0
          have z1 := blk_frozen hG 1
          have g0 := blk_cell hG 0
          have g1 := blk_cell hG 1
          simp only [List.getElem?_toArray, List.getElem?_cons_succ, List.getElem?_cons_zero] at c0 c1 g0 g1
          clear hG
          go_upto_region 25 with (fail)
          have n1 : N + 1 < wr.heap.size := blk_lt HG.out
          have n2 : sb < wr.heap.size := blk_lt HSB.out
          go_region
          go_wp2_with fail
          have k1 := blk_put (blk_put HG.out 0 (hdr j hb) rfl) 1 (hdr j ob) rfl
          have e0 := blk_cell k1 0
          have e1 := blk_cell k1 1
          simp only [List.setIfInBounds_toArray, List.set_cons_zero, List.set_cons_succ, List.getElem?_toArray, List.getElem?_cons_succ, List.getElem?_cons_zero] at e0 e1
          have hp0 : f.f0.toNat = j := by rw [HPR.out.1]; exact Int.toNat_natCast j
          have hr0 : f.f1.toNat = r := by rw [HPR.out.2.1]; exact Int.toNat_natCast r
          have hbn : b < n5 := by rw [← HSZ.out]; exact blk_lt HBO.out
          have hbN : N + 1 < b := by have := HBS.out; omega
          refine bodyPost_ret (v := .tuple #[.slice (some ⟨b, 0, none⟩) (locsF f) (locsF f), .agg #[hdr j hb, hdr j ob], .int .i64 0]) ?_ rfl ⟨b, esc, hb, ob, bs, hs, rows, by rw [hp0], by rw [HN.out]; omega, ?_, HFI.out.func HPR.out.1 HPR.out.2.1 HRL.out (fun i hi => HI.out i (by rw [HRL.out]; exact hi)) HHI.out, ?_, ?_⟩
          · have e0' : (World.drew ((wr.setCell ⟨N + 1, 0, none⟩ (hdr j hb)).setCell ⟨N + 1, 1, none⟩ (hdr j ob))).cell? ⟨N + 1, 0, none⟩ = _ := e0
            have e1' : (World.drew ((wr.setCell ⟨N + 1, 0, none⟩ (hdr j hb)).setCell ⟨N + 1, 1, none⟩ (hdr j ob))).cell? ⟨N + 1, 1, none⟩ = _ := e1
            simp [results, Tryd.f10, go_sem, e0', e1']
          · show ((wr.setCell ⟨N + 1, 0, none⟩ (hdr j hb)).setCell ⟨N + 1, 1, none⟩ (hdr j ob)).heap[b]? = _
            exact (Below.heap_setCell _ ⟨N + 1, 1, none⟩ _ b (by show b ≠ N + 1; omega)).trans ((Below.heap_setCell _ ⟨N + 1, 0, none⟩ _ b (by show b ≠ N + 1; omega)).trans ((HB.out.block _ hbn).trans HBO.out))
          · rw [hp0, hr0]
            exact (((HS.out.far hg5 0 _).far hg5 1 _).low (by rw [HN.out]; omega)).drewn
          · rw [HN.out]
            exact below_drew (((HB7.out.trans (HB.out.mono (by omega))).setCell (p := ⟨N + 1, 0, none⟩) (Nat.le_succ _) _).setCell (p := ⟨N + 1, 1, none⟩) (Nat.le_succ _) _)
end Go.Proofs.YtcbcacbbnojdjaaDoor
namespace Go.Proofs.YtcbcacbbnojdjaaDoor
open Go.RowKit Go.Maps Go.Proofs.YtcbcacbbnojdjaaDoorW.PrintWords Go.Proofs.YtcbcacbbnojdjaaDoorW.PrintLast Go.Proofs.YtcbcacbbnojdjaaDoor.PSolveMonotone
set_option linter.unusedVariables false
set_option linter.unusedSimpArgs false
/-- What 'right' tells where it tells true. -/
def RightP (G : Int) (fs : List Fun) (sums : List Smm) : Prop := chk G fs = 0 ∧ sums.length = fs.length ∧ ∀ i, i < fs.length → ShapeOk (fs.getD i zF) (sums.getD i zS)
set_option maxRecDepth 100000 in
set_option maxHeartbeats 6400000 in
theorem right_law (G : Int) (A : Option Addr) (c : Nat) (fs : List Fun) (SA : Option Addr) (sums : List Smm) (sl : Nat) (w : World) (hC : k45.C w A fs.length fs) (hcap : fs.length ≤ c) (hS : k33.C w SA sums.length sums) (hscap : sums.length ≤ sl) (hlen : fs.length ≤ 2147483647) (hlen2 : sums.length ≤ 2147483647)
    (hcode : ∀ f ∈ fs, f.f3.length ≤ 2147483647 ∧ ∀ x ∈ f.f3, x.f5.length ≤ 2147483647 ∧ x.f6.length ≤ 2147483647) (hsm : ∀ s ∈ sums, SmallS s) :
    Calls Tryd.prog 8 #[.agg #[.int .i64 G, .slice A fs.length c], .slice SA sums.length sl] w fun e w' => ∃ r, e = .returned (.bool r) ∧ (r = true → RightP G fs sums) ∧ Below w.heap.size w w' := by
  have HC := Lib.hid hC
  have HS := Lib.hid hS
  have HSM := Lib.hid hsm
  have HCODE := Lib.hid hcode
  clear hC hS hsm hcode
  go_enter Tryd.func8, Tryd.ntmps8
  go_upto_region 1 with (fail)
  have hb1 := below1 w (.cells #[.int .i64 G, .slice A fs.length c] 24)
  have hn1 := alloc_new w (.cells #[.int .i64 G, .slice A fs.length c] 24)
  have HCK := Lib.hid (checkR_any G A c fs _ (Kd.C_below HC.out hb1) hlen HCODE.out)
  obtain ⟨N, hN⟩ : ∃ N, w.heap.size = N := ⟨_, rfl⟩
  have HN := Lib.hid hN
  rw [hN] at hb1 hn1 ⊢
  clear hN
  generalize World.alloc _ _ = W1 at hb1 hn1 HCK ⊢
  have HB1 := Lib.hid hb1
  have HP1 := Lib.hid hn1
  have c0 := blk_cell hn1 0
  have c1 := blk_cell hn1 1
  simp only [List.getElem?_toArray, List.getElem?_cons_succ, List.getElem?_cons_zero] at c0 c1
  clear hb1 hn1
  go_wp2_with fail
  refine HCK.out.mono ?_
  rintro e W2 ⟨rfl, hb2⟩
  have hN1 : N < W1.heap.size := blk_lt HP1.out
  have HP2 := Lib.hid ((hb2.block _ hN1).trans HP1.out)
  have HB2 := Lib.hid (HB1.out.trans (hb2.mono (by omega)))
  clear hb2 hN1 HCK HB1 HP1 c0 c1
  have c1 := blk_cell HP2.out 1
  simp only [List.getElem?_toArray, List.getElem?_cons_succ, List.getElem?_cons_zero] at c1
  obtain ⟨q, hq⟩ : ∃ q, chk G fs = q := ⟨_, rfl⟩
  have HQ := Lib.hid hq
  rw [hq]
  clear hq
  by_cases hq0 : q = 0
  · subst hq0
    by_cases hsl : sums.length = fs.length
    · have HSL := Lib.hid hsl
      have hd : ((sums.length : Int) != (fs.length : Int)) = false := bne_eq_false_iff_eq.2 (by omega)
      clear hsl
      go_upto_region 4 with (fail)
      clear hd c1
      go_loopw [5] (fun i wr => ∃ j : Nat, j ≤ fs.length ∧ i = .int .i64 j ∧ (∀ k, k < j → ShapeOk (fs.getD k zF) (sums.getD k zS)) ∧ Below N w wr ∧ wr.heap[N]? = some (.cells #[.int .i64 G, .slice A fs.length c] 24 (0, 0))) (fun i _ => fs.length - (intOf i).toNat)
      case atStart => exact ⟨0, by omega, rfl, fun k hk => absurd hk (by omega), HB2.out, HP2.out⟩
      case round =>
        clear HP2 HB2
        obtain ⟨j, hj, rfl, hsh, hB, hP⟩ := hrel
        have HSH := Lib.hid hsh
        have HB := Lib.hid hB
        have HP := Lib.hid hP
        clear hsh hB hP
        by_cases hlt : j < fs.length
        · have hls : decide (j < sums.length) = true := by rw [HSL.out]; exact decide_eq_true hlt
          have hls2 : j < sums.length := by rw [HSL.out]; exact hlt
          have hbw : Below w.heap.size w wr := by rw [HN.out]; exact HB.out
          obtain ⟨ad, A3, c3, hA, e0, e1, e2, e3, hc3, hC3⟩ := at_T45 (Kd.C_below HC.out hbw) (j : Int) (by omega) (by omega)
          obtain ⟨sd, B0, d0, B1, d1, hSA, s0, s1, hd0, hD0, hd1, hD1⟩ := at_T33 (Kd.C_below HS.out hbw) (j : Int) (by omega) (by rw [HSL.out]; omega)
          obtain ⟨f, hf⟩ : ∃ f, fs.getD j zF = f := ⟨_, rfl⟩
          obtain ⟨s, hs⟩ : ∃ s, sums.getD j zS = s := ⟨_, rfl⟩
          have hf' : rd_T45 fs (j : Int) = f := hf
          have hs' : rd_T33 sums (j : Int) = s := hs
          rw [hf', Int.toNat_natCast] at e0 e1 e2 e3
          rw [hf'] at hc3 hC3
          rw [hs', Int.toNat_natCast] at s0 s1
          rw [hs'] at hd0 hD0 hd1 hD1
          have hsm : SmallS s := hs ▸ HSM.out _ (getD_mem _ _ _ (by rw [HSL.out]; exact hlt))
          have HCS := Lib.hid (shaped_any f.f0 f.f1 f.f2 A3 f.f3.length c3 B0 d0 s.f0 B1 d1 s.f1 wr.drew (show (Kd.int .i64).C wr.drew B0 s.f0.length s.f0 from hD0) (show (Kd.slice 3 (Kd.int .i64)).C wr.drew B1 s.f1.length s.f1 from hD1) (by have := hsm.1; omega) (fun x hx => by have := hsm.2.2 x hx; omega))
          have HFS := Lib.hid (And.intro hf hs)
          subst hA
          subst hSA
          have p1 := blk_cell HP.out 1
          simp only [List.getElem?_toArray, List.getElem?_cons_succ, List.getElem?_cons_zero] at p1
          clear hf hs hf' hs' hbw hC3 hD0 hD1 hd0 hd1 hsm
          have y1 := p1
          have y2 := e0
          have y3 := e1
          have y4 := e2
          have y5 := e3
          have y6 := s0
          have y7 := s1
          go_upto_region 6 with (fail)
          go_region_held3 (fun w' => w'.cell? ⟨N, 1, none⟩ = some (.slice (some ad) fs.length c) ∧ w'.cell? (ad.add (j * 4)) = some (.int .i64 f.f0) ∧ w'.cell? ⟨(ad.add (j * 4)).block, (ad.add (j * 4)).off + 1, none⟩ = some (.int .i64 f.f1) ∧ w'.cell? ⟨(ad.add (j * 4)).block, (ad.add (j * 4)).off + 2, none⟩ = some (.int .i64 f.f2) ∧ w'.cell? ⟨(ad.add (j * 4)).block, (ad.add (j * 4)).off + 3, none⟩ = some (.slice A3 f.f3.length c3) ∧ w'.cell? (sd.add (j * 2)) = some (.slice B0 s.f0.length d0) ∧ w'.cell? ⟨(sd.add (j * 2)).block, (sd.add (j * 2)).off + 1, none⟩ = some (.slice B1 s.f1.length d1))
            (first | (go_keep; done) | exact ⟨k1, k2, k3, k4, k5, k6, k7⟩)
            (first | (go_at_call 21; refine HCS.out.mono ?_; rintro e w3 ⟨r, rfl, hr, hb3⟩; have HRR := Lib.hid hr; have k1 := below_cells hb3 _ _ y1; have k2 := below_cells hb3 _ _ y2; have k3 := below_cells hb3 _ _ y3; have k4 := below_cells hb3 _ _ y4; have k5 := below_cells hb3 _ _ y5; have k6 := below_cells hb3 _ _ y6; have k7 := below_cells hb3 _ _ y7; have HB3 := Lib.hid hb3; clear hb3 hr))
          have HB4 := Lib.hid (HB.out.trans ((Below.trans (below_drew (Below.refl _ wr)) HB3.out : Below wr.heap.size wr w3).mono (by have := blk_lt HP.out; omega)))
          have HP4 := Lib.hid (((Below.trans (below_drew (Below.refl _ wr)) HB3.out : Below wr.heap.size wr w3).block _ (blk_lt HP.out)).trans HP.out)
          clear k1 k2 k3 k4 k5 k6 k7 y1 y2 y3 y4 y5 y6 y7 e0 e1 e2 e3 s0 s1 p1 HB3 HB HP HCS
          rename_i hHeld
          clear hHeld
          cases r with
          | true =>
            go_wp2_with fail
            go_roundw
            case rel => exact ⟨j + 1, by omega, by go_num, fun k hk => by
              by_cases hkj : k = j
              · subst hkj
                rw [HFS.out.1, HFS.out.2]
                exact ShapeP.ok _ _ (HRR.out rfl)
              · exact HSH.out k (by omega), HB4.out, HP4.out⟩
            case measure => simp [intOf]; omega
          | false =>
            go_wp2_with fail
            go_ret
            exact ⟨false, rfl, (fun h => by cases h), by rw [HN.out]; exact HB4.out⟩
        · obtain rfl : j = fs.length := by omega
          have hls : decide (fs.length < sums.length) = false := by rw [HSL.out]; exact decide_eq_false (by omega)
          go_wp2_with fail
          go_ret
          exact ⟨true, rfl, fun _ => ⟨HQ.out, HSL.out, HSH.out⟩, by rw [HN.out]; exact HB.out⟩
    · have hd : ((sums.length : Int) != (fs.length : Int)) = true := bne_iff_ne.2 (by omega)
      go_wp2_with fail
      go_ret
      exact ⟨false, rfl, (fun h => by cases h), by rw [HN.out]; exact HB2.out⟩
  · have hd : (q != 0) = true := by simpa using hq0
    have hd2 : (q == 0) = false := by simpa using hq0
    go_wp2_with fail
    go_ret
    exact ⟨false, rfl, (fun h => by cases h), by rw [HN.out]; exact HB2.out⟩
end Go.Proofs.YtcbcacbbnojdjaaDoor
namespace Go.Proofs.YtcbcacbbnojdjaaDoor
open Go.RowKit Go.Maps Go.Proofs.YtcbcacbbnojdjaaDoorW.PrintWords Go.Proofs.YtcbcacbbnojdjaaDoorW.PrintLast Go.Proofs.YtcbcacbbnojdjaaDoor.PSolveMonotone
set_option linter.unusedVariables false
set_option linter.unusedSimpArgs false
theorem nums_C {W : World} {b : Nat} {l : List Int} (h : NumsAt W b l) (hl : l.length ≤ 9223372036854775807) : (Kd.int .i64).C W (some ⟨b, 0, none⟩) l.length l := by
  refine ⟨rfl, hl, fun _ => ⟨_, rfl, fun j x hj => ⟨[.int .i64 x], rfl, rfl, fun i u hu => ?_⟩⟩⟩
  have hi := (List.getElem?_eq_some_iff.1 hu).1
  obtain rfl : i = 0 := by simp at hi; exact hi
  obtain rfl : Value.int .i64 x = u := by simpa using hu
  have hjl := (List.getElem?_eq_some_iff.1 hj).1
  rw [show (Addr.add ⟨b, 0, none⟩ (j * (Kd.int .i64).sz + 0)) = ⟨b, j, none⟩ from (congrArg _ (show j * 1 + 0 = j by omega)).trans (add_at b j), h.at_ hjl, List.getD_eq_getElem?_getD, hj]
  rfl
theorem bools_C {W : World} {b : Nat} {l : List Bool} (h : BoolsAt W b l) (hl : l.length ≤ 9223372036854775807) : Kd.bool.C W (some ⟨b, 0, none⟩) l.length l := by
  refine ⟨rfl, hl, fun _ => ⟨_, rfl, fun j x hj => ⟨[.bool x], rfl, rfl, fun i u hu => ?_⟩⟩⟩
  have hi := (List.getElem?_eq_some_iff.1 hu).1
  obtain rfl : i = 0 := by simp at hi; exact hi
  obtain rfl : Value.bool x = u := by simpa using hu
  have hjl := (List.getElem?_eq_some_iff.1 hj).1
  rw [show (Addr.add ⟨b, 0, none⟩ (j * Kd.bool.sz + 0)) = ⟨b, j, none⟩ from (congrArg _ (show j * 1 + 0 = j by omega)).trans (add_at b j), h.at_ hjl, List.getD_eq_getElem?_getD, hj]
  rfl
theorem SumAt.heapC {W : World} {base hb ob r p : Nat} {bs : List Nat} {hs : List Int} {rows : List (List Int)} (h : SumAt W base hb ob r p bs hs rows) (hl : hs.length ≤ 8) : (Kd.int .i64).C W (some ⟨hb, 0, none⟩) hs.length hs := nums_C h.hn (by omega)
theorem SumAt.rowsC {W : World} {base hb ob r p : Nat} {bs : List Nat} {hs : List Int} {rows : List (List Int)} (h : SumAt W base hb ob r p bs hs rows) (hl : rows.length ≤ 8) (hr : r ≤ 4) (hrl : ∀ i, i < rows.length → (rows.getD i []).length = r) : (Kd.slice 3 (Kd.int .i64)).C W (some ⟨ob, 0, none⟩) rows.length rows := by
  refine ⟨rfl, by omega, fun _ => ⟨_, rfl, fun j x hj => ?_⟩⟩
  have hjl : j < rows.length := (List.getElem?_eq_some_iff.1 hj).1
  have hx : rows.getD j [] = x := by rw [List.getD_eq_getElem?_getD, hj]; rfl
  have hR := h.rw_ j hjl
  have hrj := hrl j hjl
  rw [hx] at hR hrj
  refine ⟨[hdr r (bs.getD j 0)], rfl, ⟨some ⟨bs.getD j 0, 0, none⟩, r, by rw [hrj], by omega, nums_C hR (by omega)⟩, fun i u hu => ?_⟩
  have hi := (List.getElem?_eq_some_iff.1 hu).1
  obtain rfl : i = 0 := by simp at hi; exact hi
  obtain rfl : hdr r (bs.getD j 0) = u := by simpa using hu
  have hjb : j < bs.length := by rw [h.lb]; exact hjl
  have hbc := blk_cell h.ho j
  rw [List.getElem?_toArray, List.getElem?_append_left (by rw [List.length_map]; exact hjb), List.getElem?_map, List.getElem?_eq_getElem hjb, Option.map_some] at hbc
  rw [show (Addr.add ⟨ob, 0, none⟩ (j * (Kd.slice 3 (Kd.int .i64)).sz + 0)) = ⟨ob, j, none⟩ from (congrArg _ (show j * 1 + 0 = j by omega)).trans (add_at ob j), hbc, List.getD_eq_getElem?_getD, List.getElem?_eq_getElem hjb]
  rfl
/-- Summaries in a block of their own: one. -/
theorem SumAt.one {W : World} {base hb ob r p : Nat} {bs : List Nat} {hs : List Int} {rows : List (List Int)} (h : SumAt W base hb ob r p bs hs rows) (hl : hs.length = p) (hwl : rows.length = p) (hp : p ≤ 8) (hr : r ≤ 4) (hrl : ∀ i, i < rows.length → (rows.getD i []).length = r) {b : Nat} (hcell : W.heap[b]? = some (.cells #[hdr p hb, hdr p ob] 33 (0, 0))) : k33.C W (some ⟨b, 0, none⟩) 1 [⟨hs, rows⟩] := by
  refine ⟨rfl, by decide, fun _ => ⟨_, rfl, fun j x hj => ?_⟩⟩
  have hjl := (List.getElem?_eq_some_iff.1 hj).1
  obtain rfl : j = 0 := by simp at hjl; exact hjl
  obtain rfl : (⟨hs, rows⟩ : Smm) = x := by simpa using hj
  have hK := k33_mk W ⟨hs, rows⟩ (A0 := some ⟨hb, 0, none⟩) (c0 := p) (by show hs.length ≤ p; omega) (h.heapC (by omega)) (A1 := some ⟨ob, 0, none⟩) (c1 := p) (by show rows.length ≤ p; omega) (h.rowsC (by omega) hr hrl)
  have hK : k33.K W ⟨hs, rows⟩ [.slice (some ⟨hb, 0, none⟩) hs.length p, .slice (some ⟨ob, 0, none⟩) rows.length p] := hK
  rw [hl, hwl] at hK
  refine ⟨_, rfl, hK, fun i u hu => ?_⟩
  rw [show (Addr.add ⟨b, 0, none⟩ (0 * k33.sz + i)) = ⟨b, i, none⟩ from (congrArg _ (show 0 * 2 + i = i by omega)).trans (add_at b i), blk_cell hcell i]
  rw [List.getElem?_toArray]
  exact hu
set_option maxRecDepth 100000 in
set_option maxHeartbeats 3200000 in
theorem one_any (A : Option Addr) (n c : Nat) (w : World) : Calls Tryd.prog 16 #[.slice A n c] w fun e w' => ∃ b, e = .returned (.agg #[.int .i64 0, .slice (some ⟨b, 0, none⟩) 1 1]) ∧ w'.heap[b]? = some (.cells #[.int .i64 1, .int .i64 1, .int .i64 2, .slice A n c] 45 (0, 0)) ∧ w.heap.size ≤ b ∧ Below w.heap.size w w' := by
  go_enter Tryd.func16, Tryd.ntmps16
  go_wp2_with fail
  have k0 := alloc_first w #[.int .i64 0, .slice (some ⟨w.heap.size + 1, 0, none⟩) 1 1] 24 (.cells #[.int .i64 1, .int .i64 1, .int .i64 2, .slice A n c] 45)
  have e0 := blk_cell k0 0
  have e1 := blk_cell k0 1
  simp only [List.getElem?_toArray, List.getElem?_cons_succ, List.getElem?_cons_zero] at e0 e1
  refine bodyPost_ret (v := .agg #[.int .i64 0, .slice (some ⟨w.heap.size + 1, 0, none⟩) 1 1]) ?_ rfl ⟨w.heap.size + 1, rfl, alloc_second _ _ _ _, by omega, (below1 w _).alloc (by simp) _⟩
  simp [results, Tryd.f16, go_sem, e0, e1]
theorem live_code {W : World} {cb ab : Nat} (h1 : W.heap[cb]? = some (.cells #[.int .i64 5, .int .i64 1, .int .i64 0, .int .i64 0, .int .i64 0, .slice none 0 0, .slice none 0 0, .int .i64 15, .int .i64 0, .int .i64 0, .int .i64 0, .int .i64 0, .slice (some ⟨ab, 0, none⟩) 1 1, .slice none 0 0] 52 (0, 0))) (h2 : W.heap[ab]? = some (.cells #[.int .i64 1] 3 (0, 0))) : k52.C W (some ⟨cb, 0, none⟩) 2 liveF.f3 := by
  have hn : (Kd.int .i64).C W none 0 [] := ⟨rfl, by decide, fun h => absurd h (by decide)⟩
  have hab : NumsAt W ab [1] := h2
  refine ⟨rfl, by decide, fun _ => ⟨_, rfl, fun j x hj => ?_⟩⟩
  have hjl : j < 2 := (List.getElem?_eq_some_iff.1 hj).1
  have hcell : ∀ i, W.cell? (Addr.add ⟨cb, 0, none⟩ (j * k52.sz + i)) = _ := fun i => (congrArg W.cell? ((congrArg _ (show j * 7 + i = j * 7 + i from rfl)).trans (add_at cb (j * 7 + i)))).trans (blk_cell h1 (j * 7 + i))
  rcases (show j = 0 ∨ j = 1 by omega) with rfl | rfl
  · obtain rfl : (⟨5, 1, 0, 0, 0, [], []⟩ : Ins) = x := by simpa [liveF] using hj
    refine ⟨_, rfl, k52_mk W ⟨5, 1, 0, 0, 0, [], []⟩ (A5 := none) (c5 := 0) (Nat.le_refl _) hn (A6 := none) (c6 := 0) (Nat.le_refl _) hn, fun i u hu => ?_⟩
    rw [hcell i, ← hu]
    have hi := (List.getElem?_eq_some_iff.1 hu).1
    have hi7 : i < 7 := hi
    match i, hi7 with
    | 0, _ => rfl
    | 1, _ => rfl
    | 2, _ => rfl
    | 3, _ => rfl
    | 4, _ => rfl
    | 5, _ => rfl
    | 6, _ => rfl
  · obtain rfl : (⟨15, 0, 0, 0, 0, [1], []⟩ : Ins) = x := by simpa [liveF] using hj
    refine ⟨_, rfl, k52_mk W ⟨15, 0, 0, 0, 0, [1], []⟩ (A5 := some ⟨ab, 0, none⟩) (c5 := 1) (Nat.le_refl _) (nums_C hab (by decide)) (A6 := none) (c6 := 0) (Nat.le_refl _) hn, fun i u hu => ?_⟩
    rw [hcell i, ← hu]
    have hi := (List.getElem?_eq_some_iff.1 hu).1
    have hi7 : i < 7 := hi
    match i, hi7 with
    | 0, _ => rfl
    | 1, _ => rfl
    | 2, _ => rfl
    | 3, _ => rfl
    | 4, _ => rfl
    | 5, _ => rfl
    | 6, _ => rfl
theorem live_funcs {W : World} {b : Nat} {A : Option Addr} (h : W.heap[b]? = some (.cells #[.int .i64 1, .int .i64 1, .int .i64 2, .slice A 2 2] 45 (0, 0))) (hC : k52.C W A 2 liveF.f3) : k45.C W (some ⟨b, 0, none⟩) 1 [liveF] := by
  refine ⟨rfl, by decide, fun _ => ⟨_, rfl, fun j x hj => ?_⟩⟩
  have hjl : j < 1 := (List.getElem?_eq_some_iff.1 hj).1
  obtain rfl : j = 0 := by omega
  obtain rfl : liveF = x := by simpa using hj
  refine ⟨_, rfl, k45_mk W liveF (A3 := A) (c3 := 2) (Nat.le_refl _) hC, fun i u hu => ?_⟩
  rw [show (Addr.add ⟨b, 0, none⟩ (0 * k45.sz + i)) = ⟨b, i, none⟩ from (congrArg _ (show 0 * 4 + i = i by omega)).trans (add_at b i), blk_cell h i, ← hu]
  have hi := (List.getElem?_eq_some_iff.1 hu).1
  have hi7 : i < 4 := hi
  match i, hi7 with
  | 0, _ => rfl
  | 1, _ => rfl
  | 2, _ => rfl
  | 3, _ => rfl
def livePost (W : World) (e : Ending) (w' : World) : Prop := ∃ eb hb ob bs, e = .returned (.tuple #[.slice (some ⟨eb, 0, none⟩) 4 4, .agg #[hdr 1 hb, hdr 1 ob], .int .i64 0]) ∧ BoolsAt w' eb [false, false, true, false] ∧ SumAt w' W.heap.size hb ob 1 1 bs [0] [[0]] ∧ Below W.heap.size W w'
theorem live_func (b : Nat) (SA : Option Addr) (W : World) (hF : k45.C W (some ⟨b, 0, none⟩) 1 [liveF]) (hS : k33.C W SA 1 [⟨[9], [[9]]⟩]) (htl : TellsAt W) : Calls Tryd.prog 10 #[.agg #[.int .i64 0, .slice (some ⟨b, 0, none⟩) 1 1], .int .i64 0, .slice SA 1 1] W (livePost W) := by
  have h := func_any 0 (some ⟨b, 0, none⟩) 1 [liveF] 0 SA [⟨[9], [[9]]⟩] 1 W hF (Nat.le_refl _) hS (Nat.le_refl _) (by simp) (fun f hf => by
    obtain rfl := List.mem_singleton.1 hf
    refine ⟨by decide, fun x hx => ?_⟩
    rcases List.mem_cons.1 hx with rfl | hx
    · exact ⟨by decide, by decide⟩
    · obtain rfl := List.mem_singleton.1 hx
      exact ⟨by decide, by decide⟩) rfl (fun s hs => by
    obtain rfl := List.mem_singleton.1 hs
    refine ⟨by decide, fun r hr => ?_⟩
    obtain rfl := List.mem_singleton.1 hr
    decide) (chk_of live_chk) (by simp) liveF rfl (fun x hx => by
    rcases List.mem_cons.1 hx with rfl | hx
    · intro h; exact absurd h (by decide)
    · obtain rfl := List.mem_singleton.1 hx
      intro h; exact absurd h (by decide)) htl
  refine h.mono fun e w' hp => ?_
  obtain ⟨eb, esc, hb, ob, bs, hs, rows, he, h1, h2, h3, h4, h5⟩ := hp
  rw [live_edges] at h3
  obtain ⟨rfl, rfl, rfl⟩ := live_is h3
  exact ⟨eb, hb, ob, bs, he, h2, h4, h5⟩
theorem lowest_one (A3 : Option Addr) (w : World) : Calls Tryd.prog 17 #[.agg #[.int .i64 1, .int .i64 1, .int .i64 2, .slice A3 2 2]] w (lowPost 1 1 w) := lowest_any 1 1 2 A3 2 2 w (by decide) (by decide)
def LivesOut (n0 : Nat) (w : World) (s2 s3 s4 : Value) (wc : World) : Prop := ∃ eb sb hb ob bs, s2 = .slice (some ⟨eb, 0, none⟩) 4 4 ∧ s3 = .pointer (some ⟨sb, 0, none⟩) ∧ s4 = .int .i64 0 ∧ BoolsAt wc eb [false, false, true, false] ∧ wc.heap[sb]? = some (.cells #[hdr 1 hb, hdr 1 ob] 33 (0, 0)) ∧ SumAt wc n0 hb ob 1 1 bs [0] [[0]] ∧ Below n0 w wc
theorem live_b1 {W3 w4 : World} {o : Obj} (h : Below (W3.alloc o).heap.size (W3.alloc o) w4) : Below W3.heap.size W3 w4 := (below1 W3 o).trans (h.mono (by simp))
theorem live_b2 {W3 w4 : World} {o : Obj} (h : Below (W3.drew.alloc o).heap.size (W3.drew.alloc o) w4) : Below W3.heap.size W3 w4 := Below.trans (below_drew (Below.refl _ W3)) (live_b1 h)
theorem live_b4 {W3 w4 : World} {o o' : Obj} (h : Below ((W3.alloc o).alloc o').heap.size ((W3.alloc o).alloc o') w4) : Below W3.heap.size W3 w4 := live_b1 (live_b1 h)
theorem live_go (b : Nat) {base hb ob sk : Nat} {bs : List Nat} {W3 w4 X : World} (hC : k45.C W3 (some ⟨b, 0, none⟩) 1 [liveF]) (h34 : Below W3.heap.size W3 w4) (hX : Below w4.heap.size w4 X) (hsk : X.heap[sk]? = some (.cells #[hdr 1 hb, hdr 1 ob] 33 (0, 0))) (hS : SumAt w4 base hb ob 1 1 bs (List.replicate 1 9) (List.replicate 1 (List.replicate 1 9))) (htl : TellsAt W3) :
    Calls Tryd.prog 10 #[.agg #[.int .i64 0, .slice (some ⟨b, 0, none⟩) 1 1], .int .i64 0, .slice (some ⟨sk, 0, none⟩) 1 1] X (livePost X) :=
  live_func b (some ⟨sk, 0, none⟩) X (Kd.C_below hC (h34.trans (hX.mono h34.size))) (SumAt.one (hS.below hX) rfl rfl (by decide) (by decide) (fun i hi => by
    obtain rfl : i = 0 := by simp at hi; exact hi
    rfl) hsk) (htl.below (h34.trans (hX.mono h34.size)))
theorem lives_alloc {n0 : Nat} {w w6 : World} {eb hb ob base : Nat} {bs : List Nat} (hE : BoolsAt w6 eb [false, false, true, false]) (hS : SumAt w6 base hb ob 1 1 bs [0] [[0]]) (hB : Below n0 w w6) (hn : n0 ≤ base) : LivesOut n0 w (.slice (some ⟨eb, 0, none⟩) 4 4) (.pointer (some ⟨w6.heap.size, 0, none⟩)) (.int .i64 0) (w6.alloc (.cells #[hdr 1 hb, hdr 1 ob] 33)) :=
  ⟨eb, w6.heap.size, hb, ob, bs, rfl, rfl, rfl, hE.far ((below1 w6 _).block _ (blk_lt hE)), alloc_new _ _, (hS.below (below1 w6 _)).low hn, hB.trans ((below1 w6 _).mono (by have := blk_lt hS.hn; have := hS.l0; omega))⟩
theorem lives_set {n0 : Nat} {w w6 : World} {eb hb ob base nb : Nat} {bs : List Nat} (hE : BoolsAt w6 eb [false, false, true, false]) (hS : SumAt w6 base hb ob 1 1 bs [0] [[0]]) (hB : Below n0 w w6) (hn : n0 ≤ nb) (hnb : nb < base) (hs : w6.heap[nb]? = some (.cells #[.slice none 0 0, .slice none 0 0] 33 (0, 0))) :
    LivesOut n0 w (.slice (some ⟨eb, 0, none⟩) 4 4) (.pointer (some ⟨nb, 0, none⟩)) (.int .i64 0) ((w6.setCell ⟨nb, 0, none⟩ (hdr 1 hb)).setCell ⟨nb, 1, none⟩ (hdr 1 ob)) := by
  have hne : eb ≠ nb := by
    rintro rfl
    have h2 : w6.heap[eb]? = _ := hE
    rw [hs] at h2
    injection h2 with h2
    injection h2 with _ h2 _
    exact absurd h2 (by decide)
  exact ⟨eb, nb, hb, ob, bs, rfl, rfl, rfl, (Below.heap_setCell _ ⟨nb, 1, none⟩ _ eb hne).trans ((Below.heap_setCell _ ⟨nb, 0, none⟩ _ eb hne).trans hE), blk_put (blk_put hs 0 _ rfl) 1 _ rfl, ((hS.far hnb 0 _).far hnb 1 _).low (by omega), (hB.setCell (p := ⟨nb, 0, none⟩) hn _).setCell (p := ⟨nb, 1, none⟩) hn _⟩
theorem live_ab (w : World) (o o' : Obj) : Below w.heap.size w ((w.alloc o).alloc o') := (below1 w o).alloc (by simp) _
theorem cell_set2 {w : World} {nb : Nat} {u v x : Value} {a : Addr} (h : w.cell? a = some x) (hn : a.block < nb) : ((w.setCell ⟨nb, 0, none⟩ u).setCell ⟨nb, 1, none⟩ v).cell? a = some x :=
  (cell_far (a := a) (p := ⟨nb, 1, none⟩) (show a.block ≠ nb by omega) _).trans ((cell_far (a := a) (p := ⟨nb, 0, none⟩) (show a.block ≠ nb by omega) _).trans h)
theorem drewB {b : Nat} {w w' : World} (h : Below b w w') (n : Nat) : Below b w (w'.drewN n) := pw_below_drewN h n
theorem lists_one {W : World} {ob ib : Nat} {l : List Int} (h1 : W.heap[ob]? = some (.cells #[.slice (some ⟨ib, 0, none⟩) l.length l.length] 30 (0, 0))) (h2 : NumsAt W ib l) (hl : l.length ≤ 8) : (Kd.slice 3 (Kd.int .i64)).C W (some ⟨ob, 0, none⟩) 1 [l] := by
  refine ⟨rfl, by decide, fun _ => ⟨_, rfl, fun j x hj => ?_⟩⟩
  have hjl : j < 1 := (List.getElem?_eq_some_iff.1 hj).1
  obtain rfl : j = 0 := by omega
  obtain rfl : l = x := by simpa using hj
  refine ⟨[.slice (some ⟨ib, 0, none⟩) l.length l.length], rfl, ⟨_, _, rfl, Nat.le_refl _, nums_C h2 (by omega)⟩, fun i u hu => ?_⟩
  have hi := (List.getElem?_eq_some_iff.1 hu).1
  obtain rfl : i = 0 := by simp at hi; exact hi
  rw [show (Addr.add ⟨ob, 0, none⟩ (0 * (Kd.slice 3 (Kd.int .i64)).sz + 0)) = ⟨ob, 0, none⟩ from (congrArg _ (show 0 * 1 + 0 = 0 by omega)).trans (add_at ob 0), blk_cell h1 0, ← hu]
  rfl
theorem live_rows0 : ∀ i, i < ([[0]] : List (List Int)).length → (([[0]] : List (List Int)).getD i []).length = 1 := by
  intro i hi
  obtain rfl : i = 0 := by simp at hi; exact hi
  rfl
set_option maxRecDepth 100000 in
set_option maxHeartbeats 6400000 in
theorem lives_any (w : World) (htl : TellsAt w) : Calls Tryd.prog 7 #[] w fun e w' => e = .returned (.bool true) ∧ Below w.heap.size w w' := by
  have HTL := Lib.hid htl
  clear htl
  go_enter Tryd.func7, Tryd.ntmps7
  go_wp2_with fail
  refine (one_any _ _ _ _).mono ?_
  rintro e W2 ⟨b, rfl, hb, hbb, hb2⟩
  have hab := (hb2.block w.heap.size (by simp; omega)).trans (alloc_first w #[.int .i64 1] 3 _)
  have hcb := (hb2.block (w.heap.size + 1) (by simp)).trans (alloc_second w _ _ _)
  have hB2 : Below w.heap.size w W2 := ((below1 w _).alloc (by simp) _).trans (hb2.mono (by simp; omega))
  clear hb2 hbb
  have hC2 := live_funcs hb (live_code hcb hab)
  go_upto_region 2 with (fail)
  obtain ⟨n0, hn0⟩ : ∃ n0, w.heap.size = n0 := ⟨_, rfl⟩
  have HN := Lib.hid hn0
  rw [hn0] at hab hcb hB2 hb ⊢
  clear hn0
  have hs2 := hB2.size
  rw [HN.out] at hs2
  have hb3 := below1 W2 (.cells #[.int .i64 0, .slice (some ⟨b, 0, none⟩) 1 1] 24)
  have hn3 := alloc_new W2 (.cells #[.int .i64 0, .slice (some ⟨b, 0, none⟩) 1 1] 24)
  have hF3 := (hb3.block _ (blk_lt hb)).trans hb
  have hC3 := Kd.C_below hC2 hb3
  have hB3 := hB2.trans (hb3.mono hs2)
  obtain ⟨pb, hpb⟩ : ∃ pb, W2.heap.size = pb := ⟨_, rfl⟩
  rw [hpb] at hn3 ⊢
  clear hab hcb hB2 hb hC2 hb3 hpb hs2
  generalize World.alloc W2 _ = W3 at hn3 hF3 hC3 hB3 ⊢
  have HP := Lib.hid hn3
  have HF := Lib.hid hF3
  have HC := Lib.hid hC3
  have HB := Lib.hid hB3
  have p0 := blk_cell hn3 0
  have p1 := blk_cell hn3 1
  have f0 := blk_cell hF3 0
  have f1 := blk_cell hF3 1
  have f2 := blk_cell hF3 2
  have f3 := blk_cell hF3 3
  simp only [List.getElem?_toArray, List.getElem?_cons_succ, List.getElem?_cons_zero] at p0 p1 f0 f1 f2 f3
  have y0 := p0
  have y1 := p1
  have y2 := f0
  have y3 := f1
  have y4 := f2
  have y5 := f3
  have HT3 := Lib.hid (HTL.out.below (HN.out.symm ▸ hB3))
  have hns : n0 ≤ W3.heap.size := by rw [← HN.out]; exact hB3.size
  clear hn3 hF3 hC3 hB3
  have npb : pb < W3.heap.size := blk_lt HP.out
  have nbb : b < W3.heap.size := blk_lt HF.out
  go_cut [2, 3, 4] (fun s2 s3 s4 wc => LivesOut n0 w s2 s3 s4 wc)
  case first =>
    go_region_held3 (fun w' => w'.cell? ⟨pb, 0, none⟩ = some (.int .i64 0) ∧ w'.cell? ⟨pb, 1, none⟩ = some (.slice (some ⟨b, 0, none⟩) 1 1) ∧ w'.cell? ⟨b, 0, none⟩ = some (.int .i64 1) ∧ w'.cell? ⟨b, 1, none⟩ = some (.int .i64 1) ∧ w'.cell? ⟨b, 2, none⟩ = some (.int .i64 2) ∧ w'.cell? ⟨b, 3, none⟩ = some (.slice (some ⟨n0 + 1, 0, none⟩) 2 2))
      (first | (go_keep; done) | exact ⟨j0, j1, j2, j3, j4, j5⟩ | exact ⟨k0, k1, k2, k3, k4, k5⟩ | exact ⟨cell_set2 j0 (show pb < _ by omega), cell_set2 j1 (show pb < _ by omega), cell_set2 j2 (show b < _ by omega), cell_set2 j3 (show b < _ by omega), cell_set2 j4 (show b < _ by omega), cell_set2 j5 (show b < _ by omega)⟩)
      (first | (go_at_call 17; refine (lowest_one _ _).mono ?_; rintro e w4 ⟨hb, ob, bs, rfl, hS4, hb4⟩; have hb5 : Below W3.heap.size W3 w4 := (by first | exact Below.trans (below_drew (Below.refl _ W3)) hb4 | exact live_b1 hb4 | exact live_b2 hb4 | exact live_b3 hb4); have k0 := below_cells hb5 _ _ y0; have k1 := below_cells hb5 _ _ y1; have k2 := below_cells hb5 _ _ y2; have k3 := below_cells hb5 _ _ y3; have k4 := below_cells hb5 _ _ y4; have k5 := below_cells hb5 _ _ y5; have n34 := hb5.size; have HB5 := Lib.hid hb5; have HS4 := Lib.hid hS4; (first | (have z4 : w4.heap[W3.heap.size]? = some (.cells #[.slice none 0 0, .slice none 0 0] 33 (0, 0)) := kept_at hb4 (alloc_new _ _); have Z4 := Lib.hid z4; clear z4) | skip); clear hb4 hS4 hb5) | (go_at_call 10; (first | (with_reducible refine (live_go b HC.out HB5.out (below1 w4 _) (alloc_new w4 _) HS4.out HT3.out).mono ?_) | (with_reducible refine (live_go b HC.out HB5.out (live_ab w4 _ _) (alloc_second w4 _ _ _) HS4.out HT3.out).mono ?_) | (with_reducible refine (live_go b HC.out HB5.out (live_ab w4 _ _) (alloc_first w4 _ _ _) HS4.out HT3.out).mono ?_)); rintro e w6 ⟨eb, hb2, ob2, bs2, rfl, hE6, hS6, hb6⟩; have hb7 : Below w4.heap.size w4 w6 := (by first | exact live_b1 hb6 | exact live_b4 hb6); have hb8 := HB5.out.trans (hb7.mono HB5.out.size); have j0 := below_cells hb8 _ _ y0; have j1 := below_cells hb8 _ _ y1; have j2 := below_cells hb8 _ _ y2; have j3 := below_cells hb8 _ _ y3; have j4 := below_cells hb8 _ _ y4; have j5 := below_cells hb8 _ _ y5; (first | (have s0 : w6.heap[w4.heap.size + 1]? = some (.cells #[.slice none 0 0, .slice none 0 0] 33 (0, 0)) := kept_at hb6 (alloc_second w4 _ _ _); have z0 := blk_frozen s0 0; have z1 := blk_frozen s0 1; have g0 := blk_cell s0 0; have g1 := blk_cell s0 1; have n4 := blk_lt s0; simp only [List.getElem?_toArray, List.getElem?_cons_succ, List.getElem?_cons_zero] at g0 g1; have S0 := Lib.hid s0; clear s0) | (have s0 : w6.heap[w4.heap.size]? = some (.cells #[.slice none 0 0, .slice none 0 0] 33 (0, 0)) := kept_at hb6 (alloc_first w4 _ _ _); have z0 := blk_frozen s0 0; have z1 := blk_frozen s0 1; have g0 := blk_cell s0 0; have g1 := blk_cell s0 1; have n4 := blk_lt s0; simp only [List.getElem?_toArray, List.getElem?_cons_succ, List.getElem?_cons_zero] at g0 g1; have S0 := Lib.hid s0; clear s0) | (have s0 : w6.heap[W3.heap.size]? = some (.cells #[.slice none 0 0, .slice none 0 0] 33 (0, 0)) := kept_at hb7 Z4.out; have z0 := blk_frozen s0 0; have z1 := blk_frozen s0 1; have g0 := blk_cell s0 0; have g1 := blk_cell s0 1; have n4 := blk_lt s0; simp only [List.getElem?_toArray, List.getElem?_cons_succ, List.getElem?_cons_zero] at g0 g1; have S0 := Lib.hid s0; clear s0) | skip); have HE6 := Lib.hid hE6; have HS6 := Lib.hid hS6; have HB6 := Lib.hid hb8; have HB7 := Lib.hid hb7; clear hE6 hS6 hb6 hb7 hb8))
    all_goals go_wp2_with fail
    all_goals go_meet
    · exact lives_alloc HE6.out HS6.out (HB.out.trans (HB6.out.mono hns)) (by have := HB7.out.size; simp; omega)
    · exact lives_set HE6.out HS6.out (HB.out.trans (HB6.out.mono hns)) (by omega) (by simp) S0.out
    · exact lives_set HE6.out HS6.out (HB.out.trans (HB6.out.mono hns)) (by omega) (by simp; omega) S0.out
    · exact lives_set HE6.out HS6.out (HB.out.trans (HB6.out.mono hns)) (by omega) (by simp; omega) S0.out
  case rest =>
    obtain ⟨eb, sb, hb, ob, bs, rfl, rfl, rfl, hE, hs, hS, hB⟩ := hcut
    have HE := Lib.hid hE
    have HS := Lib.hid hS
    have HSB := Lib.hid hs
    have HBW := Lib.hid hB
    clear hE hs hS hB
    obtain ⟨wd, rfl⟩ : ∃ wd : World, wd = wc := ⟨_, rfl⟩
    have hNw : n0 ≤ wd.heap.size := by have := blk_lt HS.out.hn; have := HS.out.l0; omega
    have hb5 := below1 wd (.cells #[.bool false, .bool false, .bool true, .bool false] 4)
    have hb6 : BoolsAt (wd.alloc (.cells #[.bool false, .bool false, .bool true, .bool false] 4)) wd.heap.size [false, false, true, false] := alloc_new wd _
    have HEB := Lib.hid (fugueref00_EqBools.calls 10 (some ⟨eb, 0, none⟩) 4 [false, false, true, false] (some ⟨wd.heap.size, 0, none⟩) 4 [false, false, true, false] true _ (bools_C (HE.out.far (hb5.block _ (blk_lt HE.out))) (by decide)) (Nat.le_refl _) (bools_C hb6 (by decide)) (Nat.le_refl _) (by kernel_rfl))
    have HB5 := Lib.hid hb5
    clear hb5 hb6
    go_wp2_with fail
    refine HEB.out.mono ?_
    rintro e w6 ⟨rfl, ⟨nd, rfl⟩⟩
    have HB6 := Lib.hid (drewB HB5.out nd)
    clear HEB HB5
    generalize (World.alloc _ _).drewN nd = w6 at HB6 ⊢
    have hs6 := (HB6.out.block _ (blk_lt HSB.out)).trans HSB.out
    have HSB6 := Lib.hid hs6
    have HS6 := Lib.hid (HS.out.below HB6.out)
    have s0 := blk_cell hs6 0
    have s1 := blk_cell hs6 1
    simp only [List.getElem?_toArray, List.getElem?_cons_succ, List.getElem?_cons_zero] at s0 s1
    have hb7 := below1 w6 (.cells #[.int .i64 0] 3)
    have hS7 := HS6.out.below hb7
    have HEI := Lib.hid (fugueref00_EqInts.calls 10 (some ⟨hb, 0, none⟩) 1 [0] (some ⟨w6.heap.size, 0, none⟩) 1 [0] true _ (hS7.heapC (by decide)) (Nat.le_refl _) (one_row 0 w6) (Nat.le_refl _) (by kernel_rfl))
    have HB7 := Lib.hid hb7
    clear hs6 hb7 hS7
    go_wp2_with fail
    refine HEI.out.mono ?_
    rintro e w8 ⟨rfl, ⟨nd2, rfl⟩⟩
    have HB8 := Lib.hid (drewB HB7.out nd2)
    clear HEI HB7 s0 s1
    generalize (World.alloc _ _).drewN nd2 = w8 at HB8 ⊢
    have hs8 := (HB8.out.block _ (blk_lt HSB6.out)).trans HSB6.out
    have s0 := blk_cell hs8 0
    have s1 := blk_cell hs8 1
    simp only [List.getElem?_toArray, List.getElem?_cons_succ, List.getElem?_cons_zero] at s0 s1
    have HS8 := Lib.hid (HS6.out.below HB8.out)
    have HB9 := Lib.hid (HB6.out.trans (HB8.out.mono HB6.out.size))
    clear hs8 HS6 HSB6 HB6 HB8
    have hb8 := live_ab w8 (.cells #[.int .i64 0] 3) (.cells #[.slice (some ⟨w8.heap.size, 0, none⟩) 1 1] 30)
    have hN8 : NumsAt ((w8.alloc (.cells #[.int .i64 0] 3)).alloc (.cells #[.slice (some ⟨w8.heap.size, 0, none⟩) 1 1] 30)) w8.heap.size [0] := alloc_first w8 _ _ _
    have HEL := Lib.hid (fugueref00_EqLists.calls 10 (some ⟨ob, 0, none⟩) 1 [[0]] (some ⟨w8.heap.size + 1, 0, none⟩) 1 [[0]] true _ ((HS8.out.below hb8).rowsC (by decide) (by decide) live_rows0) (Nat.le_refl _) (lists_one (l := [0]) (alloc_second w8 _ _ _) hN8 (by decide)) (Nat.le_refl _) (by kernel_rfl))
    have HB10 := Lib.hid (HB9.out.trans (hb8.mono HB9.out.size))
    clear hb8 hN8 HB9
    go_wp2_with fail
    refine HEL.out.mono ?_
    rintro e w9 ⟨rfl, ⟨nd3, rfl⟩⟩
    clear HEL s0 s1
    go_wp2_with fail
    go_ret
    refine ⟨rfl, ?_⟩
    rw [HN.out]
    exact HBW.out.trans ((drewB HB10.out nd3).mono hNw)
end Go.Proofs.YtcbcacbbnojdjaaDoor
namespace Go.Proofs.YtcbcacbbnojdjaaDoor
open Go.RowKit Go.Maps Go.Proofs.YtcbcacbbnojdjaaDoorW.PrintWords Go.Proofs.YtcbcacbbnojdjaaDoorW.PrintLast Go.Proofs.YtcbcacbbnojdjaaDoor.PSolveMonotone
set_option linter.unusedVariables false
set_option linter.unusedSimpArgs false
/-- Summaries of the program's shape. -/
def ShapesOk (fs : List Fun) (sums : List Smm) : Prop := sums.length = fs.length ∧ ∀ i, i < fs.length → ShapeOk (fs.getD i zF) (sums.getD i zS)
theorem HeadOk.le8 {f : Fun} (h : HeadOk f) : f.f0 ≤ 8 ∧ f.f0 ≤ f.f2 := by
  have h8 := h.p1
  split at h8 <;> omega
theorem ShapesOk.fit {G : Int} {fs : List Fun} {sums : List Smm} (h : ShapesOk fs sums) (ha : AllOk G fs) (fi : Nat) (hfi : fi < fs.length) : ∀ x ∈ (fs.getD fi zF).f3, x.f0 = 11 → fitsB (fs.getD x.f4.toNat zF) (sums.getD x.f4.toNat zS) = true := by
  have hins := ha.ins fi hfi
  generalize fs.getD fi zF = f at hins ⊢
  intro x hx h11
  obtain ⟨k, hk, rfl⟩ := List.getElem_of_mem hx
  have hI := hins k hk
  rw [List.getD_eq_getElem?_getD, List.getElem?_eq_getElem hk] at hI
  simp only [Option.getD_some] at hI
  have hF := need_ok (hI.part (p := .F) (by rw [h11]; decide))
  have hF' : 0 ≤ (f.f3[k]).f4 ∧ (f.f3[k]).f4 < fs.length := of_decide_eq_true hF
  exact ShapeOk.fits _ _ (h.2 _ (by omega))
theorem func_right (G : Int) (A : Option Addr) (c : Nat) (fs : List Fun) (fi : Nat) (SA : Option Addr) (sums : List Smm) (sl : Nat) (w : World) (hC : k45.C w A fs.length fs) (hcap : fs.length ≤ c) (hS : k33.C w SA sums.length sums) (hscap : sums.length ≤ sl) (ha : AllOk G fs) (hs : ShapesOk fs sums) (hsm : ∀ f ∈ fs, SmallF f) (hfi : fi < fs.length) (htl : TellsAt w) :
    Calls Tryd.prog 10 #[.agg #[.int .i64 G, .slice A fs.length c], .int .i64 fi, .slice SA sums.length sl] w (funcPost (fs.getD fi zF) (allE (fs.getD fi zF) sums (1 + (fs.getD fi zF).f1 + (fs.getD fi zF).f2) (fs.getD fi zF).f3.length).1 w) := by
  refine func_any G A c fs fi SA sums sl w hC hcap hS hscap (by have := ha.F0.2; omega) (fun f hf => ?_) hs.1 (fun s hm => ?_) ha hfi _ rfl (hs.fit ha fi hfi) htl
  · obtain ⟨i, hi, rfl⟩ := List.getElem_of_mem hf
    have hd := ha.hd i hi
    rw [List.getD_eq_getElem?_getD, List.getElem?_eq_getElem hi] at hd
    have := hd.n1
    simp only [Option.getD_some] at this
    exact ⟨by omega, (hsm _ (List.getElem_mem hi)).2⟩
  · obtain ⟨i, hi, rfl⟩ := List.getElem_of_mem hm
    have hi' : i < fs.length := by rw [← hs.1]; exact hi
    have hd := (ha.hd i hi')
    have h8 := hd.le8
    have h4 := hd.r1
    have hS := hs.2 i hi'
    rw [List.getD_eq_getElem?_getD (l := sums), List.getElem?_eq_getElem hi] at hS
    simp only [Option.getD_some] at hS
    have e0 := hS.h0; have e1 := hS.h1
    refine ⟨by omega, fun r hr => ?_⟩
    obtain ⟨j, hj, rfl⟩ := List.getElem_of_mem hr
    have e2 := hS.hr j (by omega)
    rw [List.getD_eq_getElem?_getD (l := sums[i].f1), List.getElem?_eq_getElem hj] at e2
    simp only [Option.getD_some] at e2
    omega
/-- What Function answers, its sizes by name. -/
def outPost (n p r : Nat) (f : Fun) (E : List Edg) (w : World) (e : Ending) (w' : World) : Prop :=
  ∃ b esc hb ob bs hs rows, e = .returned (.tuple #[.slice (some ⟨b, 0, none⟩) n n, .agg #[hdr p hb, hdr p ob], .int .i64 0]) ∧ BoolsAt w' b esc ∧ esc.length = n ∧ FuncIs f E esc hs rows ∧ SumAt w' w.heap.size hb ob r p bs hs rows ∧ hs.length = p ∧ rows.length = p ∧ (∀ i, i < rows.length → (rows.getD i []).length = r) ∧ w.heap.size ≤ b ∧ Below w.heap.size w w'
theorem func_out (G : Int) (A : Option Addr) (c : Nat) (fs : List Fun) (fi : Nat) (SA : Option Addr) (sums : List Smm) (sl : Nat) (w : World) (hC : k45.C w A fs.length fs) (hcap : fs.length ≤ c) (hS : k33.C w SA sums.length sums) (hscap : sums.length ≤ sl) (ha : AllOk G fs) (hs : ShapesOk fs sums) (hsm : ∀ f ∈ fs, SmallF f) (hfi : fi < fs.length) (htl : TellsAt w)
    (f : Fun) (hf : f = fs.getD fi zF) (n p r : Nat) (hn : locsF f = n) (hp : f.f0.toNat = p) (hr : f.f1.toNat = r) :
    Calls Tryd.prog 10 #[.agg #[.int .i64 G, .slice A fs.length c], .int .i64 fi, .slice SA sums.length sl] w (outPost n p r f (allE f sums (1 + f.f1 + f.f2) f.f3.length).1 w) := by
  have hd := ha.hd fi hfi
  have h0 := func_right G A c fs fi SA sums sl w hC hcap hS hscap ha hs hsm hfi htl
  rw [← hf] at hd h0
  have hp0 := hd.p0
  have hr0 := hd.r0
  subst hn; subst hp; subst hr
  refine h0.mono fun e w' h => ?_
  obtain ⟨b, esc, hb, ob, bs, hs, rows, he, hwb, hB, hF, hSu, hBe⟩ := h
  obtain ⟨ress, h, hI⟩ := id hF
  have e1 := hI.hl; have e2 := hI.wl; have e3 := hI.rl
  exact ⟨b, esc, hb, ob, bs, hs, rows, he, hB, hI.hp.len, hF, hSu, by omega, by omega, fun i hi => by rw [hI.wa i (by omega)]; omega, hwb, hBe⟩
end Go.Proofs.YtcbcacbbnojdjaaDoor
