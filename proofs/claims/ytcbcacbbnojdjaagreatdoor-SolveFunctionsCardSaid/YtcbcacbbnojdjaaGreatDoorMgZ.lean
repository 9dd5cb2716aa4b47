/-
 Part Z of what the law's proof needs: walks of the program's functions and the plain laws of what they tell. No condition.
-/
import Derived.Test.YtcbcacbbnojdjaaGreatDoorMgY
import Derived.Deep.RegionHeld3
namespace Go.Proofs.YtcbcacbbnojdjaaGreatDoor
open Go.RowKit Go.Maps Go.Proofs.YtcbcacbbnojdjaaGreatDoorW.PrintWords Go.Proofs.YtcbcacbbnojdjaaGreatDoorW.PrintLast Go.Proofs.YtcbcacbbnojdjaaGreatDoorW.PrintMore Go.Proofs.YtcbcacbbnojdjaaGreatDoor.PSolveFunctions
set_option linter.unusedVariables false
set_option linter.unusedSimpArgs false
def kCode : Kd (List Ins) where
 sz := 1
 E := 79 :: kSp.E
 K := fun w xs cs => ∃ A c, cs = [.slice A xs.length c] ∧ xs.length + 64 ≤ c ∧ kSp.C w A (xs.length + 64) (spare xs 64)
 M := fun w base ok xs cs => ∃ A c, cs = [.slice A xs.length c] ∧ Kd.S kSp 79 w base ok (.slice A (xs.length + 64) c) (spare xs 64)
 K_len := by
  rintro w x cs ⟨A, c, rfl, _⟩
  rfl
 K_one := by
  rintro w x cs ⟨A, c, rfl, _⟩ u hu
  rw [List.mem_singleton.1 hu]
  rfl
 K_below := by
  rintro w w1 x cs hb ⟨A, c, rfl, hl, hr⟩
  exact ⟨A, c, rfl, hl, Kd.C_below hr hb⟩
 K_of_M := by
  rintro w base ok x cs ⟨A, c, rfl, h⟩
  obtain ⟨h1, h2, h3⟩ := Kd.S_reads' h
  refine ⟨A, c, rfl, h2, ?_⟩
  rwa [spare_length] at h3
 M_mono := by
  rintro w base ok ok' x cs hok ⟨A, c, rfl, h⟩
  exact ⟨A, c, rfl, Kd.S_mono h hok⟩
 M_bound := by
  rintro w base ok x cs ⟨A, c, rfl, h⟩
  exact ⟨A, c, rfl, Kd.S_bound h⟩
 M_move := by
  rintro w w1 base ok x cs hm ⟨A, c, rfl, h⟩
  exact ⟨A, c, rfl, Kd.S_move h hm⟩
 M_lower := by
  rintro w base base' ok x cs hb ⟨A, c, rfl, h⟩
  exact ⟨A, c, rfl, Kd.S_lower h hb⟩
def kRF : Kd Fun := Kd.iso (Kd.pair (Kd.int .i64) (Kd.pair (Kd.int .i64) (Kd.pair (Kd.int .i64) kCode))) (fun f : Fun => (f.f0, f.f1, f.f2, f.f3))
def kSpF : Kd (Fun ⊕ Fun) := kAlt kRF k66 rfl
theorem kRF_open {w : World} {f : Fun} {cs : List Value} (h : kRF.K w f cs) : ∃ A c, cs = [.int .i64 f.f0, .int .i64 f.f1, .int .i64 f.f2, .slice A f.f3.length c] ∧ f.f3.length + 64 ≤ c ∧ kSp.C w A (f.f3.length + 64) (spare f.f3 64) := by
 obtain ⟨_, _, rfl, rfl, _, _, rfl, rfl, _, _, rfl, rfl, ⟨A, c, rfl, h1, h2⟩⟩ := h
 exact ⟨A, c, rfl, h1, h2⟩
theorem kRF_mkM (w : World) (base : Nat) (ok : Nat → Prop) (f : Fun) {A : Option Addr} {c : Nat} (g : Kd.S kSp 79 w base ok (.slice A (f.f3.length + 64) c) (spare f.f3 64)) : kRF.M w base ok f [.int .i64 f.f0, .int .i64 f.f1, .int .i64 f.f2, .slice A f.f3.length c] :=
 ⟨[_], [_, _, _], rfl, rfl, [_], [_, _], rfl, rfl, [_], [_], rfl, rfl, ⟨A, c, rfl, g⟩⟩
theorem kRF_plain {w : World} {f : Fun} {cs : List Value} (h : kRF.K w f cs) : k66.K w f cs := by
 obtain ⟨A, c, rfl, h1, h2⟩ := kRF_open h
 exact k66_mk w f (by omega) (spare_plain h2)
def spareF (fs : List Fun) (m : Nat) : List (Fun ⊕ Fun) := fs.map .inl ++ (List.range m).map fun i : Nat => .inr ⟨-76 - (i : Int), 0, 0, []⟩
theorem spareF_length (fs : List Fun) (m : Nat) : (spareF fs m).length = fs.length + m := by simp [spareF]
theorem spareF_step (fs : List Fun) (m : Nat) : spareF fs m ++ [.inr ⟨-76 - (m : Int), 0, 0, []⟩] = spareF fs (m + 1) := by
 simp [spareF, List.range_succ]
theorem spareF_zero (fs : List Fun) : spareF fs 0 = fs.map .inl := by simp [spareF]
theorem info_spF : (Tryz.prog.info? 66).map (fun i => (i.zero, i.size, i.bytes)) = some (some (.agg #[.int .i64 0, .int .i64 0, .int .i64 0, .slice none 0 0]), kSpF.sz, 48) := by kernel_rfl
def sparePPost (G : Int) (fs : List Fun) (w : World) (e : Ending) (w' : World) : Prop :=
 ∃ A c, e = .returned (.agg #[.int .i64 G, .slice A fs.length c]) ∧ Kd.S kSpF 66 w' w.heap.size (fun _ => True) (.slice A (fs.length + 64) c) (spareF fs 64) ∧ Below w.heap.size w w'
set_option maxRecDepth 100000 in
set_option maxHeartbeats 6400000 in
theorem spare_any (G : Int) (A : Option Addr) (c : Nat) (fs : List Fun) (w : World) (hC : k66.C w A fs.length fs) (hm : fs.length ≤ 2147483647) (hs : ∀ f ∈ fs, f.f3.length ≤ 2147483647 ∧ ∀ x ∈ f.f3, SmallI x) :
  Calls Tryz.prog 9 #[.agg #[.int .i64 G, .slice A fs.length c]] w (sparePPost G fs w) := by
 have HC := Lib.hid hC
 have HS := Lib.hid hs
 clear hC hs
 go_enter Tryz.func9, Tryz.ntmps9
 go_upto_region 1 with (fail)
 have hb0 := two_allocs w (.cells #[.int .i64 G, .slice A fs.length c] 24) (.cells #[.int .i64 0, .slice none 0 0] 24)
 have f1 := alloc_first w #[.int .i64 G, .slice A fs.length c] 24 (.cells #[.int .i64 0, .slice none 0 0] 24)
 have f2 := alloc_second w (.cells #[.int .i64 G, .slice A fs.length c] 24) #[.int .i64 0, .slice none 0 0] 24
 obtain ⟨N, hN⟩ : ∃ N, w.heap.size = N := ⟨_, rfl⟩
 have HN := Lib.hid hN
 rw [hN] at hb0 f1 f2 ⊢
 clear hN
 generalize World.alloc _ _ = W1 at hb0 f1 f2 ⊢
 have HB1 := Lib.hid hb0
 have F1 := Lib.hid f1
 have F2 := Lib.hid f2
 have c1 := blk_cell f1 1
 simp only [List.getElem?_toArray, List.getElem?_cons_succ, List.getElem?_cons_zero] at c1
 clear hb0 f1 f2
 go_wp2_with fail
 clear c1
 go_loopw [3, 4] (fun v i wr => ∃ (j : Nat) (A1 : Option Addr) (k1 : Nat), j ≤ fs.length ∧ v = .slice A1 j k1 ∧ i = .int .i64 j ∧ Kd.S kSpF 66 wr N (fun _ => True) (.slice A1 j k1) ((fs.take j).map .inl) ∧ wr.heap[N]? = some (.cells #[.int .i64 G, .slice A fs.length c] 24 (0, 0)) ∧ wr.heap[N + 1]? = some (.cells #[.int .i64 0, .slice none 0 0] 24 (0, 0)) ∧ Below N w wr) (fun _ i _ => fs.length - (intOf i).toNat)
 case atStart => exact ⟨0, none, 0, by omega, rfl, rfl, by simpa using Kd.S_nil _ _ _ _ _, F1.out, F2.out, HB1.out⟩
 case round =>
  clear F1 F2 HB1
  obtain ⟨j, A1, k1, hj, rfl, rfl, hr, h1, h2, hb⟩ := hrel
  have HR := Lib.hid hr
  have HB := Lib.hid hb
  have K1 := Lib.hid h1
  have K2 := Lib.hid h2
  have c1 := blk_cell h1 1
  simp only [List.getElem?_toArray, List.getElem?_cons_succ, List.getElem?_cons_zero] at c1
  clear hr hb h1 h2
  by_cases hlt : j < fs.length
  ·obtain ⟨ad, A3, c3, hA, q0, q1, q2, q3, hc3, hC3⟩ := at_T66 (Kd.C_below HC.out (HN.out ▸ HB.out)) (j : Int) (by omega) (by omega)
   obtain ⟨f, hf⟩ : ∃ f, f = fs.getD j zF := ⟨_, rfl⟩
   have hfr : rd_T66 fs (j : Int) = f := by rw [rd_T66, Int.toNat_natCast]; exact hf.symm
   rw [hfr] at q0 q1 q2 q3 hc3 hC3
   rw [Int.toNat_natCast] at q0 q1 q2 q3
   have hsm := HS.out f (hf ▸ getD_memA fs j zF hlt)
   have HTK := Lib.hid (show (fs.take (j + 1)).map (Sum.inl (β := Fun)) = (fs.take j).map .inl ++ [.inl f] by
    rw [List.take_succ_eq_append_getElem hlt, List.map_append, hf, List.getD_eq_getElem?_getD, List.getElem?_eq_getElem hlt]; rfl)
   have HSF := Lib.hid (spareFunc_any f.f0 f.f1 f.f2 wr A3 c3 f.f3 hC3 hc3 hsm.1 hsm.2)
   have htl : ((fs.take j).map (Sum.inl (β := Fun))).length = j := by rw [List.length_map, List.length_take]; omega
   subst hA
   clear hf hfr hsm hC3
   go_wp2_with fail
   refine HSF.out.mono ?_
   rintro e w5 ⟨A5, c5, rfl, hs5, hb5⟩
   have hNr : N ≤ wr.heap.size := Nat.le_of_lt (blk_lt K1.out)
   have hbx := below1 w5 (.cells #[.int .i64 f.f0, .int .i64 f.f1, .int .i64 f.f2, .slice A5 f.f3.length c5] 66)
   have hb6 := hb5.trans (hbx.mono hb5.size)
   have HM := Lib.hid (show kSpF.M (w5.alloc (.cells #[.int .i64 f.f0, .int .i64 f.f1, .int .i64 f.f2, .slice A5 f.f3.length c5] 66)) N (fun k => wr.heap.size ≤ k) (.inl f) [.int .i64 f.f0, .int .i64 f.f1, .int .i64 f.f2, .slice A5 f.f3.length c5] from
    kRF_mkM _ N (fun k => wr.heap.size ≤ k) f (Kd.S_below (Kd.S_lower (Kd.S_mono (Kd.S_bound hs5) (fun k hk => hk.2.1)) hNr) hbx))
   have HO := Lib.hid (show Kd.S kSpF 66 (w5.alloc (.cells #[.int .i64 f.f0, .int .i64 f.f1, .int .i64 f.f2, .slice A5 f.f3.length c5] 66)) N (fun k => True ∧ ¬ wr.heap.size ≤ k) (.slice A1 j k1) ((fs.take j).map .inl) from Kd.S_mono (Kd.S_below (Kd.S_bound HR.out) hb6) (fun k hk => ⟨trivial, by have := hk.2.2.1; omega⟩))
   have HLT := Lib.hid (show ∀ k, wr.heap.size ≤ k → True ∧ some k ≠ (Value.slice A1 j k1).ownBlock from fun k hk => ⟨trivial, fun e => by have := Kd.S_lt HR.out k e.symm; omega⟩)
   have HB6 := Lib.hid (HB.out.trans (hb6.mono hNr))
   have L1 := Lib.hid ((hb6.block _ (blk_lt K1.out)).trans K1.out)
   have L2 := Lib.hid ((hb6.block _ (blk_lt K2.out)).trans K2.out)
   have HSZ := Lib.hid (show N ≤ (w5.alloc (.cells #[.int .i64 f.f0, .int .i64 f.f1, .int .i64 f.f2, .slice A5 f.f3.length c5] 66)).heap.size from Nat.le_trans hNr hb6.size)
   clear hs5 hb5 hbx hb6 hNr HSF HR HB K1 K2 c1 q0 q1 q2 q3
   go_wp2_with (first | (at_builtin; refine Kd.S_append kSpF (w0 := w) (W := w5.alloc (.cells #[.int .i64 f.f0, .int .i64 f.f1, .int .i64 f.f2, .slice A5 f.f3.length c5] 66)) N rfl (.tmp 20) (.tmp 22) 22 66 _ 48 rfl Tryz.underlying22 info_spF rfl (by decide) (by decide) (.slice A1 j k1) ((fs.take j).map .inl) (.inl f) _ (fun _ => True) (fun k => wr.heap.size ≤ k) rfl (by rw [show (w5.alloc (.cells #[.int .i64 f.f0, .int .i64 f.f1, .int .i64 f.f2, .slice A5 f.f3.length c5] 66)).heap.size = w5.heap.size + 1 by simp]; rfl) HM.out HLT.out (fun _ _ => trivial) HO.out HB6.out HSZ.out (by rw [htl]; omega) ?_; intro u1 w7 hr7 hb7 hg7 hat7; rw [← HTK.out] at hr7; obtain ⟨A2, k2, hu2⟩ := Kd.S_slice hr7; have hl2 : ((fs.take (j + 1)).map (Sum.inl (β := Fun))).length = j + 1 := (by rw [List.length_map, List.length_take]; omega); rw [hl2] at hu2; subst hu2; have M1 := Lib.hid ((hg7.block _ (blk_lt L1.out) (Kd.S_ne HO.out L1.out (by decide))).trans L1.out); have M2 := Lib.hid ((hg7.block _ (blk_lt L2.out) (Kd.S_ne HO.out L2.out (by decide))).trans L2.out); have HR7 := Lib.hid hr7; have HB7 := Lib.hid hb7; clear hr7 hb7 hg7 hat7 hl2))
   go_roundw
   case rel => exact ⟨j + 1, A2, k2, by omega, rfl, by go_num, HR7.out, M1.out, M2.out, HB7.out⟩
   case measure => simp [intOf]; omega
  ·obtain rfl : j = fs.length := by omega
   rw [List.take_length] at HR
   obtain ⟨wo, rfl⟩ : ∃ wo : World, wo = wr := ⟨_, rfl⟩
   go_wp2_with fail
   clear c1
   go_loopw [3, 6] (fun v i wr => ∃ (m : Nat) (A2 : Option Addr) (k2 : Nat), m ≤ 64 ∧ v = .slice A2 (fs.length + m) k2 ∧ i = .int .i64 m ∧ Kd.S kSpF 66 wr N (fun _ => True) (.slice A2 (fs.length + m) k2) (spareF fs m) ∧ wr.heap[N]? = some (.cells #[.int .i64 G, .slice A fs.length c] 24 (0, 0)) ∧ wr.heap[N + 1]? = some (.cells #[.int .i64 0, .slice none 0 0] 24 (0, 0)) ∧ Below N w wr) (fun _ i _ => 64 - (intOf i).toNat)
   case atStart => exact ⟨0, A1, k1, by omega, rfl, rfl, by rw [spareF_zero]; exact HR.out, K1.out, K2.out, HB.out⟩
   case round =>
    clear HR HB K1 K2
    obtain ⟨m, A2, k2, hm2, rfl, rfl, hr, h1, h2, hb⟩ := hrel
    have HR := Lib.hid hr
    have HB := Lib.hid hb
    have K1 := Lib.hid h1
    have K2 := Lib.hid h2
    have HSZ := Lib.hid (show N ≤ wr.heap.size from Nat.le_of_lt (blk_lt h1))
    clear hr hb h1 h2
    by_cases hlt2 : m < 64
    ·have hs1 : IntKind.i64.wrap (-76 - (m : Int)) = -76 - (m : Int) := IntWalk.i64_in _ (by omega)
     go_wp2_with (first | (at_builtin; refine Kd.S_append kSpF (w0 := w) (W := wr) N rfl (.tmp 28) (.tmp 32) 22 66 _ 48 rfl Tryz.underlying22 info_spF rfl (by decide) (by decide) (.slice A2 (fs.length + m) k2) (spareF fs m) (.inr ⟨-76 - (m : Int), 0, 0, []⟩) _ (fun _ => True) (fun _ => False) rfl rfl (k66_mkM wr N (fun _ => False) ⟨-76 - (m : Int), 0, 0, []⟩ (Kd.R_nil _ _ _ _ _)) (fun _ h => h.elim) (fun _ _ => trivial) (Kd.S_mono HR.out (fun k hk => ⟨hk, fun h => h.elim⟩)) HB.out HSZ.out (by rw [spareF_length]; omega) ?_; intro u1 w7 hr7 hb7 hg7 hat7; rw [spareF_step] at hr7; obtain ⟨A3, k3, hu3⟩ := Kd.S_slice hr7; rw [spareF_length] at hu3; subst hu3; have M1 := Lib.hid ((hg7.block _ (blk_lt K1.out) (Kd.S_ne HR.out K1.out (by decide))).trans K1.out); have M2 := Lib.hid ((hg7.block _ (blk_lt K2.out) (Kd.S_ne HR.out K2.out (by decide))).trans K2.out); have HR7 := Lib.hid hr7; have HB7 := Lib.hid hb7; clear hr7 hb7 hg7 hat7))
     go_roundw
     case rel => exact ⟨m + 1, A3, k3, by omega, rfl, by go_num, HR7.out, M1.out, M2.out, HB7.out⟩
     case measure => simp [intOf]; omega
    ·obtain rfl : m = 64 := by omega
     have hcap := (Kd.S_reads' HR.out).2.1
     have e0 := blk_cell K1.out 0
     have e1 := blk_cell K1.out 1
     have z0 := blk_frozen K2.out 0
     have z1 := blk_frozen K2.out 1
     have d0 := blk_cell K2.out 0
     have d1 := blk_cell K2.out 1
     simp only [List.getElem?_toArray, List.getElem?_cons_succ, List.getElem?_cons_zero] at e0 e1 d0 d1
     have hcap2 : fs.length ≤ k2 := by omega
     have hc0 : (0 : Int) ≤ (fs.length : Int) := by omega
     have hc1 : (fs.length : Int) ≤ (k2 : Int) := by omega
     have n1 : N < wr.heap.size := blk_lt K1.out
     have n2 : N + 1 < wr.heap.size := blk_lt K2.out
     go_upto_region 11 with (fail)
     go_region
     go_wp2_with fail
     have k1' := blk_put (blk_put K2.out 0 (.int .i64 G) rfl) 1 (.slice A2 fs.length k2) rfl
     have q0 := blk_cell k1' 0
     have q1 := blk_cell k1' 1
     simp only [List.setIfInBounds_toArray, List.set_cons_zero, List.set_cons_succ, List.getElem?_toArray, List.getElem?_cons_succ, List.getElem?_cons_zero] at q0 q1
     refine bodyPost_ret (v := .agg #[.int .i64 G, .slice A2 fs.length k2]) ?_ rfl ⟨A2, k2, rfl, ?_, ?_⟩
     ·have q0' : (World.drew ((wr.setCell ⟨N + 1, 0, none⟩ (.int .i64 G)).setCell ⟨N + 1, 1, none⟩ (.slice A2 fs.length k2))).cell? ⟨N + 1, 0, none⟩ = _ := q0
      have q1' : (World.drew ((wr.setCell ⟨N + 1, 0, none⟩ (.int .i64 G)).setCell ⟨N + 1, 1, none⟩ (.slice A2 fs.length k2))).cell? ⟨N + 1, 1, none⟩ = _ := q1
      simp [results, Tryz.f9, go_sem, q0', q1']
     ·rw [HN.out]
      exact Kd.S_drew (Kd.S_set (Kd.S_set HR.out K2.out (by decide) 0 _) (blk_put K2.out 0 (.int .i64 G) rfl) (by decide) 1 _)
     ·rw [HN.out]
      exact below_drew ((HB.out.setCell (p := ⟨N + 1, 0, none⟩) (Nat.le_succ _) _).setCell (p := ⟨N + 1, 1, none⟩) (Nat.le_succ _) _)
theorem spareF_at (fs : List Fun) (m j : Nat) (h : j < fs.length) : (spareF fs m)[j]? = some (.inl fs[j]) := by
 rw [spareF, List.getElem?_append_left (by simpa using h), List.getElem?_map, List.getElem?_eq_getElem h]
 rfl
theorem spareF_mark (fs : List Fun) (m j : Nat) (h : j < m) : (spareF fs m)[fs.length + j]? = some (.inr ⟨-76 - (j : Int), 0, 0, []⟩) := by
 rw [spareF, List.getElem?_append_right (by simp)]
 simp [h]
theorem spareF_plain {w : World} {A : Option Addr} {fs : List Fun} (h : kSpF.C w A (fs.length + 64) (spareF fs 64)) : k66.C w A fs.length fs := by
 have hl := h.2.1
 refine ⟨rfl, by omega, fun hn => ?_⟩
 obtain ⟨ad, e, hc⟩ := h.2.2 (by omega)
 refine ⟨ad, e, fun j p hj => ?_⟩
 obtain ⟨hjl, hjp⟩ := List.getElem?_eq_some_iff.1 hj
 obtain ⟨c, h1, h2, h3⟩ := hc j _ (spareF_at fs 64 j hjl)
 refine ⟨c, h1, ?_, h3⟩
 have h4 : kRF.K w fs[j] c := h2
 rw [hjp] at h4
 exact kRF_plain h4
theorem spareF_cell {w : World} {ad : Addr} {fs : List Fun} (h : kSpF.C w (some ad) (fs.length + 64) (spareF fs 64)) (j : Nat) (hj : j < 64) : w.cell? (ad.add ((fs.length + j) * 4)) = some (.int .i64 (-76 - (j : Int))) := by
 obtain ⟨ad', e, hc⟩ := h.2.2 (by omega)
 cases e
 obtain ⟨c, h1, h2, h3⟩ := hc _ _ (spareF_mark fs 64 j hj)
 have h4 : k66.K w ⟨-76 - (j : Int), 0, 0, []⟩ c := h2
 obtain ⟨A3, c3, rfl, _⟩ := k66_open h4
 exact h3 0 _ rfl
theorem spareF_fun {w : World} {ad : Addr} {fs : List Fun} (h : kSpF.C w (some ad) (fs.length + 64) (spareF fs 64)) (j : Nat) (hj : j < fs.length) :
  ∃ A3 c3, w.cell? (ad.add (j * 4)) = some (.int .i64 fs[j].f0) ∧ w.cell? ⟨(ad.add (j * 4)).block, (ad.add (j * 4)).off + 1, none⟩ = some (.int .i64 fs[j].f1) ∧ w.cell? ⟨(ad.add (j * 4)).block, (ad.add (j * 4)).off + 2, none⟩ = some (.int .i64 fs[j].f2) ∧ w.cell? ⟨(ad.add (j * 4)).block, (ad.add (j * 4)).off + 3, none⟩ = some (.slice A3 fs[j].f3.length c3) ∧
   fs[j].f3.length + 64 ≤ c3 ∧ kSp.C w A3 (fs[j].f3.length + 64) (spare fs[j].f3 64) := by
 obtain ⟨ad', e, hc⟩ := h.2.2 (by omega)
 cases e
 obtain ⟨c, h1, h2, h3⟩ := hc _ _ (spareF_at fs 64 j hj)
 have h4 : kRF.K w fs[j] c := h2
 obtain ⟨A3, c3, rfl, q1, q2⟩ := kRF_open h4
 refine ⟨A3, c3, h3 0 _ rfl, ?_, ?_, ?_, q1, q2⟩
 ·rw [← add_field _ _ 1 (by omega)]; exact h3 1 _ rfl
 ·rw [← add_field _ _ 2 (by omega)]; exact h3 2 _ rfl
 ·rw [← add_field _ _ 3 (by omega)]; exact h3 3 _ rfl
set_option maxRecDepth 100000 in
set_option maxHeartbeats 3200000 in
theorem stays_any (G : Int) (w : World) (A : Option Addr) (c : Nat) (A' : Option Addr) (c' : Nat) (fs : List Fun) (hC : kSpF.C w A (fs.length + 64) (spareF fs 64)) (hc : fs.length + 64 ≤ c) (hC' : k66.C w A' fs.length fs) (hm : fs.length ≤ 2147483647) (hs : ∀ f ∈ fs, f.f3.length ≤ 2147483647 ∧ ∀ x ∈ f.f3, SmallI x) :
  Calls Tryz.prog 16 #[.agg #[.int .i64 G, .slice A fs.length c], .agg #[.int .i64 G, .slice A' fs.length c']] w fun e w' => e = .returned (.bool true) ∧ Below w.heap.size w w' := by
 obtain ⟨ad, hA, _⟩ := hC.2.2 (by omega)
 subst hA
 have HC := Lib.hid hC
 have HC' := Lib.hid hC'
 have HS := Lib.hid hs
 have t0 : (G != G) = false := bne_self_eq_false G
 clear hC hC' hs
 go_enter Tryz.func16, Tryz.ntmps16
 go_upto_region 1 with (fail)
 have hb0 := two_allocs w (.cells #[.int .i64 G, .slice (some ad) fs.length c] 24) (.cells #[.int .i64 G, .slice A' fs.length c'] 24)
 have f1 := alloc_first w #[.int .i64 G, .slice (some ad) fs.length c] 24 (.cells #[.int .i64 G, .slice A' fs.length c'] 24)
 have f2 := alloc_second w (.cells #[.int .i64 G, .slice (some ad) fs.length c] 24) #[.int .i64 G, .slice A' fs.length c'] 24
 obtain ⟨N, hN⟩ : ∃ N, w.heap.size = N := ⟨_, rfl⟩
 have HN := Lib.hid hN
 rw [hN] at hb0 f1 f2 ⊢
 clear hN
 generalize World.alloc _ _ = W1 at hb0 f1 f2 ⊢
 have HB := Lib.hid hb0
 have F1 := Lib.hid f1
 have F2 := Lib.hid f2
 have c0 := blk_cell f1 0
 have c1 := blk_cell f1 1
 have d0 := blk_cell f2 0
 have d1 := blk_cell f2 1
 simp only [List.getElem?_toArray, List.getElem?_cons_succ, List.getElem?_cons_zero] at c0 c1 d0 d1
 clear hb0 f1 f2
 have hc1 : ((fs.length : Int) + 64) ≤ (c : Int) := by omega
 have hc0 : (0 : Int) ≤ (fs.length : Int) + 64 := by omega
 go_wp2_with fail
 go_loopw [6] (fun i wr => ∃ j : Nat, j ≤ 64 ∧ i = .int .i64 j ∧ wr = W1) (fun i _ => 64 - (intOf i).toNat)
 case atStart => exact ⟨0, by omega, rfl, by trivial⟩
 case round =>
  obtain ⟨j, hj, rfl, rfl⟩ := hrel
  by_cases hlt : j < 64
  ·have hx := spareF_cell (Kd.C_below HC.out (HN.out ▸ HB.out)) j hlt
   have p1 : (0 : Int) ≤ (fs.length : Int) + j := by omega
   have hs1 : IntKind.i64.wrap (-76 - (j : Int)) = -76 - (j : Int) := IntWalk.i64_in _ (by omega)
   have hne : ((-76 - (j : Int)) != (-76 - (j : Int))) = false := bne_self_eq_false _
   go_wp2_with fail
   go_roundw
   case rel => exact ⟨j + 1, by omega, by go_num, by trivial⟩
   case measure => simp [intOf]; omega
  ·have hj2 : (64 : Int) ≤ (j : Int) := by omega
   obtain ⟨wo, rfl⟩ : ∃ wo : World, wo = wr := ⟨_, rfl⟩
   go_wp2_with fail
   go_loopw [7] (fun i wr => ∃ m : Nat, m ≤ fs.length ∧ i = .int .i64 m ∧ Below wo.heap.size wo wr) (fun i _ => fs.length - (intOf i).toNat)
   case atStart => exact ⟨0, by omega, rfl, Below.refl _ _⟩
   case round =>
    clear c0 c1 d0 d1
    obtain ⟨m, hm2, rfl, hb⟩ := hrel
    have HB2 := Lib.hid hb
    have c1 := blk_cell ((hb.block _ (blk_lt F1.out)).trans F1.out) 1
    have d1 := blk_cell ((hb.block _ (blk_lt F2.out)).trans F2.out) 1
    simp only [List.getElem?_toArray, List.getElem?_cons_succ, List.getElem?_cons_zero] at c1 d1
    have hbw : Below w.heap.size w wr := by rw [HN.out]; exact HB.out.trans (hb.mono (by have := blk_lt F1.out; omega))
    clear hb
    by_cases hlt2 : m < fs.length
    ·obtain ⟨A3, c3, x0, x1, x2, x3, hc3, hk3⟩ := spareF_fun (Kd.C_below HC.out hbw) m hlt2
     obtain ⟨bd, B3, e3, hBd, y0, y1, y2, y3, he3, hC3⟩ := at_T66 (Kd.C_below HC'.out hbw) (m : Int) (by omega) (by omega)
     have hrd : rd_T66 fs (m : Int) = fs[m] := by rw [rd_T66, Int.toNat_natCast, List.getD_eq_getElem?_getD, List.getElem?_eq_getElem hlt2]; rfl
     rw [hrd] at y0 y1 y2 y3 he3 hC3
     rw [Int.toNat_natCast] at y0 y1 y2 y3
     have hsm := HS.out _ (List.getElem_mem hlt2)
     generalize fs[m] = f at *
     have HST := Lib.hid (staysFunc_any f.f0 f.f1 f.f2 wr.drew A3 c3 B3 e3 f.f3 hk3 hc3 hC3 he3 hsm.1 hsm.2)
     subst hBd
     clear hrd hsm hk3 hC3
     go_upto_region 12 with (fail)
     go_still_tail 10, (by kernel_rfl)
     change wpList _ _ _ _ _ wr.drew
     go_wp2_with fail
     refine HST.out.mono ?_
     rintro e w3 ⟨rfl, hb3⟩
     have HB3 := Lib.hid (HB2.out.trans ((Below.trans (below_drew (Below.refl _ wr)) hb3 : Below wr.heap.size wr w3).mono HB2.out.size))
     clear hb3 x0 x1 x2 x3 y0 y1 y2 y3 c1 d1
     go_wp2_with fail
     go_roundw
     case rel => exact ⟨m + 1, by omega, by go_num, HB3.out⟩
     case measure => simp [intOf]; omega
    ·obtain rfl : m = fs.length := by omega
     go_wp2_with fail
     go_ret
     exact ⟨rfl, hbw⟩
def kRw (t : Int) : Kd (List Int ⊕ List Int) := kAlt (kRoom t) (Kd.slice 3 (Kd.int .i64)) rfl
def spareL (t : Int) (rows : List (List Int)) (m : Nat) : List (List Int ⊕ List Int) := rows.map .inl ++ (List.range m).map fun i : Nat => .inr [t - (i : Int)]
theorem spareL_length (t : Int) (rows : List (List Int)) (m : Nat) : (spareL t rows m).length = rows.length + m := by simp [spareL]
theorem spareL_step (t : Int) (rows : List (List Int)) (m : Nat) : spareL t rows m ++ [.inr [t - (m : Int)]] = spareL t rows (m + 1) := by
 simp [spareL, List.range_succ]
theorem spareL_zero (t : Int) (rows : List (List Int)) : spareL t rows 0 = rows.map .inl := by simp [spareL]
theorem info_rw (t : Int) : (Tryz.prog.info? 31).map (fun i => (i.zero, i.size, i.bytes)) = some (some (.slice none 0 0), (kRw t).sz, 24) := info31
def roomLPost (t : Int) (rows : List (List Int)) (w : World) (e : Ending) (w' : World) : Prop :=
 ∃ A c, e = .returned (.slice A rows.length c) ∧ Kd.S (kRw t) 31 w' w.heap.size (fun _ => True) (.slice A (rows.length + 64) c) (spareL t rows 64) ∧ Below w.heap.size w w'
theorem int_lit (x : Int) (W : World) (base : Nat) (hb : base ≤ W.heap.size) : (Kd.int .i64).R 3 (W.alloc (.cells #[.int .i64 x] 3)) base (fun _ => True) (.slice (some ⟨W.heap.size, 0, none⟩) 1 1) [x] :=
 ⟨fun _ _ => trivial, OwnRow.lit (ps := [x]) (inner := [.int .i64 x]) W base ⟨rfl, fun j q hq => by
  have hj := (List.getElem?_eq_some_iff.1 hq).1
  obtain rfl : j = 0 := by simp at hj; exact hj
  obtain rfl : x = q := by simpa using hq
  rfl⟩ hb (by simp)⟩
set_option maxRecDepth 100000 in
set_option maxHeartbeats 6400000 in
theorem roomLists_any (t : Int) (ht : -1000 ≤ t ∧ t ≤ 0) (A : Option Addr) (c : Nat) (rows : List (List Int)) (w : World) (hC : (Kd.slice 3 (Kd.int .i64)).C w A rows.length rows) (hm : rows.length ≤ 2147483647) (hs : ∀ r ∈ rows, r.length ≤ 2147483647) :
  Calls Tryz.prog 41 #[.slice A rows.length c, .int .i64 t] w (roomLPost t rows w) := by
 have HC := Lib.hid hC
 have HS := Lib.hid hs
 clear hC hs
 go_enter Tryz.func41, Tryz.ntmps41
 obtain ⟨N, hN⟩ : ∃ N, w.heap.size = N := ⟨_, rfl⟩
 have HN := Lib.hid hN
 clear hN
 go_wp2_with fail
 go_loopw [5, 6] (fun v i wr => ∃ (j : Nat) (A1 : Option Addr) (k1 : Nat), j ≤ rows.length ∧ v = .slice A1 j k1 ∧ i = .int .i64 j ∧ Kd.S (kRw t) 31 wr N (fun _ => True) (.slice A1 j k1) ((rows.take j).map .inl) ∧ Below N w wr) (fun _ i _ => rows.length - (intOf i).toNat)
 case atStart => exact ⟨0, none, 0, by omega, rfl, rfl, by simpa using Kd.S_nil _ _ _ _ _, Below.refl _ _⟩
 case round =>
  obtain ⟨j, A1, k1, hj, rfl, rfl, hr, hb⟩ := hrel
  have HR := Lib.hid hr
  have HB := Lib.hid hb
  clear hr hb
  by_cases hlt : j < rows.length
  ·obtain ⟨ad, A3, c3, hA, x0, hc3, hC3⟩ := at_L1 (Kd.C_below HC.out (HN.out ▸ HB.out)) (j : Int) (by omega) (by omega)
   have er : rd_L1 rows (j : Int) = rows.getD j [] := by rw [rd_L1, Int.toNat_natCast]
   obtain ⟨row, hrow⟩ : ∃ row, row = rows.getD j [] := ⟨_, rfl⟩
   rw [er, ← hrow] at x0 hc3 hC3
   rw [Int.toNat_natCast] at x0
   have hsm := HS.out row (hrow ▸ getD_memA rows j [] hlt)
   have HTK := Lib.hid (show (rows.take (j + 1)).map (Sum.inl (β := List Int)) = (rows.take j).map .inl ++ [.inl row] by
    rw [List.take_succ_eq_append_getElem hlt, List.map_append, hrow, List.getD_eq_getElem?_getD, List.getElem?_eq_getElem hlt]; rfl)
   have HRM := Lib.hid (room_any t ht wr A3 c3 row hC3 hc3 hsm)
   have htl : ((rows.take j).map (Sum.inl (β := List Int))).length = j := by rw [List.length_map, List.length_take]; omega
   subst hA
   clear er hrow hsm hC3
   go_wp2_with fail
   refine HRM.out.mono ?_
   rintro e w5 ⟨A5, c5, rfl, hr5, hb5⟩
   have hNr : N ≤ wr.heap.size := HN.out ▸ HB.out.size
   have HM := Lib.hid (show (kRw t).M w5 N (fun k => wr.heap.size ≤ k) (.inl row) [.slice A5 row.length c5] from
    ⟨A5, c5, rfl, Kd.R_lower (Kd.R_mono (Kd.R_bound hr5) (fun k hk => hk.2.1)) hNr⟩)
   have HO := Lib.hid (show Kd.S (kRw t) 31 w5 N (fun k => True ∧ ¬ wr.heap.size ≤ k) (.slice A1 j k1) ((rows.take j).map .inl) from Kd.S_mono (Kd.S_below (Kd.S_bound HR.out) hb5) (fun k hk => ⟨trivial, by have := hk.2.2.1; omega⟩))
   have HLT := Lib.hid (show ∀ k, wr.heap.size ≤ k → True ∧ some k ≠ (Value.slice A1 j k1).ownBlock from fun k hk => ⟨trivial, fun e => by have := Kd.S_lt HR.out k e.symm; omega⟩)
   have HB5 := Lib.hid (HB.out.trans (hb5.mono hNr))
   have HSZ := Lib.hid (Nat.le_trans hNr hb5.size)
   clear hr5 hb5 hNr HRM HR HB x0
   go_wp2_with (first | (at_builtin; refine Kd.S_append (kRw t) (w0 := w) (W := w5) N rfl (.tmp 21) (.tmp 23) 32 31 _ 24 rfl Tryz.underlying32 (info_rw t) rfl (show 0 < 1 from Nat.one_pos) (by decide) (.slice A1 j k1) ((rows.take j).map .inl) (.inl row) _ (fun _ => True) (fun k => wr.heap.size ≤ k) rfl rfl HM.out HLT.out (fun _ _ => trivial) HO.out HB5.out HSZ.out (by rw [htl]; omega) ?_; intro u1 w7 hr7 hb7 hg7 hat7; rw [← HTK.out] at hr7; obtain ⟨A2, k2, hu2⟩ := Kd.S_slice hr7; have hl2 : ((rows.take (j + 1)).map (Sum.inl (β := List Int))).length = j + 1 := (by rw [List.length_map, List.length_take]; omega); rw [hl2] at hu2; subst hu2; have HR7 := Lib.hid hr7; have HB7 := Lib.hid hb7; clear hr7 hb7 hg7 hat7 hl2))
   go_roundw
   case rel => exact ⟨j + 1, A2, k2, by omega, rfl, by go_num, HR7.out, HB7.out⟩
   case measure => simp [intOf]; omega
  ·obtain rfl : j = rows.length := by omega
   rw [List.take_length] at HR
   obtain ⟨wo, rfl⟩ : ∃ wo : World, wo = wr := ⟨_, rfl⟩
   go_wp2_with fail
   go_loopw [5, 8] (fun v i wr => ∃ (m : Nat) (A2 : Option Addr) (k2 : Nat), m ≤ 64 ∧ v = .slice A2 (rows.length + m) k2 ∧ i = .int .i64 m ∧ Kd.S (kRw t) 31 wr N (fun _ => True) (.slice A2 (rows.length + m) k2) (spareL t rows m) ∧ Below N w wr) (fun _ i _ => 64 - (intOf i).toNat)
   case atStart => exact ⟨0, A1, k1, by omega, rfl, rfl, by rw [spareL_zero]; exact HR.out, HB.out⟩
   case round =>
    clear HR HB
    obtain ⟨m, A2, k2, hm2, rfl, rfl, hr, hb⟩ := hrel
    have HR := Lib.hid hr
    have HB := Lib.hid hb
    have hNr : N ≤ wr.heap.size := HN.out ▸ hb.size
    clear hr hb
    by_cases hlt2 : m < 64
    ·have hs1 : IntKind.i64.wrap (t - (m : Int)) = t - (m : Int) := IntWalk.i64_in _ (by omega)
     have hbx := below1 wr (.cells #[.int .i64 (t - (m : Int))] 3)
     have HM := Lib.hid (show (kRw t).M (wr.alloc (.cells #[.int .i64 (t - (m : Int))] 3)) N (fun k => wr.heap.size ≤ k) (.inr [t - (m : Int)]) [.slice (some ⟨wr.heap.size, 0, none⟩) 1 1] from
      Kd.M_row (e := 3) (Kd.R_lower (Kd.R_mono (Kd.R_bound (int_lit (t - (m : Int)) wr wr.heap.size (Nat.le_refl _))) (fun k hk => hk.2.1)) hNr))
     have HO := Lib.hid (show Kd.S (kRw t) 31 (wr.alloc (.cells #[.int .i64 (t - (m : Int))] 3)) N (fun k => True ∧ ¬ wr.heap.size ≤ k) (.slice A2 (rows.length + m) k2) (spareL t rows m) from Kd.S_mono (Kd.S_below (Kd.S_bound HR.out) hbx) (fun k hk => ⟨trivial, by have := hk.2.2.1; omega⟩))
     have HLT := Lib.hid (show ∀ k, wr.heap.size ≤ k → True ∧ some k ≠ (Value.slice A2 (rows.length + m) k2).ownBlock from fun k hk => ⟨trivial, fun e => by have := Kd.S_lt HR.out k e.symm; omega⟩)
     have HB5 := Lib.hid (HB.out.trans (hbx.mono hNr))
     have HSZ := Lib.hid (Nat.le_trans hNr hbx.size)
     clear hbx hNr HR HB
     go_wp2_with (first | (at_builtin; refine Kd.S_append (kRw t) (w0 := w) (W := wr.alloc (.cells #[.int .i64 (t - (m : Int))] 3)) N rfl (.tmp 29) (.tmp 34) 32 31 _ 24 rfl Tryz.underlying32 (info_rw t) rfl (show 0 < 1 from Nat.one_pos) (by decide) (.slice A2 (rows.length + m) k2) (spareL t rows m) (.inr [t - (m : Int)]) _ (fun _ => True) (fun k => wr.heap.size ≤ k) rfl (by rw [show (wr.alloc (.cells #[.int .i64 (t - (m : Int))] 3)).heap.size = wr.heap.size + 1 by simp]; rfl) HM.out HLT.out (fun _ _ => trivial) HO.out HB5.out HSZ.out (by rw [spareL_length]; omega) ?_; intro u1 w7 hr7 hb7 hg7 hat7; rw [spareL_step] at hr7; obtain ⟨A3, k3, hu3⟩ := Kd.S_slice hr7; rw [spareL_length] at hu3; subst hu3; have HR7 := Lib.hid hr7; have HB7 := Lib.hid hb7; clear hr7 hb7 hg7 hat7))
     go_roundw
     case rel => exact ⟨m + 1, A3, k3, by omega, rfl, by go_num, HR7.out, HB7.out⟩
     case measure => simp [intOf]; omega
    ·obtain rfl : m = 64 := by omega
     have hcap := (Kd.S_reads' HR.out).2.1
     have hc0 : (0 : Int) ≤ (rows.length : Int) := by omega
     have hc1 : (rows.length : Int) ≤ (k2 : Int) := by omega
     go_wp2_with fail
     go_ret
     exact ⟨A2, k2, rfl, HN.out ▸ HR.out, HN.out ▸ HB.out⟩
def kRows : Kd (List (List Int)) where
 sz := 1
 E := 31 :: (kRw (-700)).E
 K := fun w xs cs => ∃ A c, cs = [.slice A xs.length c] ∧ xs.length + 64 ≤ c ∧ (kRw (-700)).C w A (xs.length + 64) (spareL (-700) xs 64)
 M := fun w base ok xs cs => ∃ A c, cs = [.slice A xs.length c] ∧ Kd.S (kRw (-700)) 31 w base ok (.slice A (xs.length + 64) c) (spareL (-700) xs 64)
 K_len := by
  rintro w x cs ⟨A, c, rfl, _⟩
  rfl
 K_one := by
  rintro w x cs ⟨A, c, rfl, _⟩ u hu
  rw [List.mem_singleton.1 hu]
  rfl
 K_below := by
  rintro w w1 x cs hb ⟨A, c, rfl, hl, hr⟩
  exact ⟨A, c, rfl, hl, Kd.C_below hr hb⟩
 K_of_M := by
  rintro w base ok x cs ⟨A, c, rfl, h⟩
  obtain ⟨h1, h2, h3⟩ := Kd.S_reads' h
  refine ⟨A, c, rfl, h2, ?_⟩
  rwa [spareL_length] at h3
 M_mono := by
  rintro w base ok ok' x cs hok ⟨A, c, rfl, h⟩
  exact ⟨A, c, rfl, Kd.S_mono h hok⟩
 M_bound := by
  rintro w base ok x cs ⟨A, c, rfl, h⟩
  exact ⟨A, c, rfl, Kd.S_bound h⟩
 M_move := by
  rintro w w1 base ok x cs hm ⟨A, c, rfl, h⟩
  exact ⟨A, c, rfl, Kd.S_move h hm⟩
 M_lower := by
  rintro w base base' ok x cs hb ⟨A, c, rfl, h⟩
  exact ⟨A, c, rfl, Kd.S_lower h hb⟩
def kRS : Kd Smm := Kd.iso (Kd.pair (kRoom (-500)) kRows) (fun s : Smm => (s.f0, s.f1))
def kSpS : Kd (Smm ⊕ Smm) := kAlt kRS k34 rfl
theorem kRS_open {w : World} {s : Smm} {cs : List Value} (h : kRS.K w s cs) : ∃ A c A1 c1, cs = [.slice A s.f0.length c, .slice A1 s.f1.length c1] ∧ s.f0.length + 64 ≤ c ∧ (Kd.int .i64).C w A (s.f0.length + 64) (s.f0 ++ marks (-500)) ∧ s.f1.length + 64 ≤ c1 ∧ (kRw (-700)).C w A1 (s.f1.length + 64) (spareL (-700) s.f1 64) := by
 obtain ⟨_, _, rfl, ⟨A, c, rfl, h1, h2⟩, ⟨A1, c1, rfl, h3, h4⟩⟩ := h
 exact ⟨A, c, A1, c1, rfl, h1, h2, h3, h4⟩
theorem kRS_mkM (w : World) (base : Nat) (ok : Nat → Prop) (s : Smm) {A : Option Addr} {c : Nat} (g : (Kd.int .i64).R 3 w base ok (.slice A (s.f0.length + 64) c) (s.f0 ++ marks (-500))) {A1 : Option Addr} {c1 : Nat} (g1 : Kd.S (kRw (-700)) 31 w base ok (.slice A1 (s.f1.length + 64) c1) (spareL (-700) s.f1 64)) : kRS.M w base ok s [.slice A s.f0.length c, .slice A1 s.f1.length c1] :=
 ⟨[_], [_], rfl, ⟨A, c, rfl, g⟩, ⟨A1, c1, rfl, g1⟩⟩
def spareS (ss : List Smm) (m : Nat) : List (Smm ⊕ Smm) := ss.map .inl ++ (List.range m).map fun i : Nat => .inr ⟨[-66 - (i : Int)], []⟩
theorem spareS_length (ss : List Smm) (m : Nat) : (spareS ss m).length = ss.length + m := by simp [spareS]
theorem spareS_step (ss : List Smm) (m : Nat) : spareS ss m ++ [.inr ⟨[-66 - (m : Int)], []⟩] = spareS ss (m + 1) := by
 simp [spareS, List.range_succ]
theorem spareS_zero (ss : List Smm) : spareS ss 0 = ss.map .inl := by simp [spareS]
theorem info_spS : (Tryz.prog.info? 34).map (fun i => (i.zero, i.size, i.bytes)) = some (some (.agg #[.slice none 0 0, .slice none 0 0]), kSpS.sz, 48) := by kernel_rfl
def spareSPost (ss : List Smm) (w : World) (e : Ending) (w' : World) : Prop :=
 ∃ A c, e = .returned (.slice A ss.length c) ∧ Kd.S kSpS 34 w' w.heap.size (fun _ => True) (.slice A (ss.length + 64) c) (spareS ss 64) ∧ Below w.heap.size w w'
def SmallSm (s : Smm) : Prop := s.f0.length ≤ 2147483647 ∧ s.f1.length ≤ 2147483647 ∧ ∀ r ∈ s.f1, r.length ≤ 2147483647
set_option maxRecDepth 100000 in
set_option maxHeartbeats 12800000 in
theorem spareSums_any (A : Option Addr) (c : Nat) (ss : List Smm) (w : World) (hC : k34.C w A ss.length ss) (hm : ss.length ≤ 2147483647) (hs : ∀ s ∈ ss, SmallSm s) :
  Calls Tryz.prog 10 #[.slice A ss.length c] w (spareSPost ss w) := by
 have HC := Lib.hid hC
 have HS := Lib.hid hs
 clear hC hs
 go_enter Tryz.func10, Tryz.ntmps10
 obtain ⟨N, hN⟩ : ∃ N, w.heap.size = N := ⟨_, rfl⟩
 have HN := Lib.hid hN
 clear hN
 go_wp2_with fail
 go_loopw [3, 4] (fun v i wr => ∃ (j : Nat) (A1 : Option Addr) (k1 : Nat), j ≤ ss.length ∧ v = .slice A1 j k1 ∧ i = .int .i64 j ∧ Kd.S kSpS 34 wr N (fun _ => True) (.slice A1 j k1) ((ss.take j).map .inl) ∧ Below N w wr) (fun _ i _ => ss.length - (intOf i).toNat)
 case atStart => exact ⟨0, none, 0, by omega, rfl, rfl, by simpa using Kd.S_nil _ _ _ _ _, Below.refl _ _⟩
 case round =>
  obtain ⟨j, A1, k1, hj, rfl, rfl, hr, hb⟩ := hrel
  have HR := Lib.hid hr
  have HB := Lib.hid hb
  clear hr hb
  by_cases hlt : j < ss.length
  ·obtain ⟨ad, B0, d0, B1, d1, hA, x0, x1, hd0, hC0, hd1, hC1⟩ := at_T34 (Kd.C_below HC.out (HN.out ▸ HB.out)) (j : Int) (by omega) (by omega)
   obtain ⟨s, hs⟩ : ∃ s, s = ss.getD j zS := ⟨_, rfl⟩
   have hsr : rd_T34 ss (j : Int) = s := by rw [rd_T34, Int.toNat_natCast]; exact hs.symm
   rw [hsr] at x0 x1 hd0 hC0 hd1 hC1
   rw [Int.toNat_natCast] at x0 x1
   have hsm := HS.out s (hs ▸ getD_memA ss j zS hlt)
   have HTK := Lib.hid (show (ss.take (j + 1)).map (Sum.inl (β := Smm)) = (ss.take j).map .inl ++ [.inl s] by
    rw [List.take_succ_eq_append_getElem hlt, List.map_append, hs, List.getD_eq_getElem?_getD, List.getElem?_eq_getElem hlt]; rfl)
   have htl : ((ss.take j).map (Sum.inl (β := Smm))).length = j := by rw [List.length_map, List.length_take]; omega
   have HRM := Lib.hid (room_any (-500) (by omega) wr.drew B0 d0 s.f0 hC0 hd0 hsm.1)
   have HRL := Lib.hid (fun (W : World) (hb : Below wr.heap.size wr W) => roomLists_any (-700) (by omega) B1 d1 s.f1 W (Kd.C_below hC1 hb) hsm.2.1 hsm.2.2)
   have hNr : N ≤ wr.heap.size := HN.out ▸ HB.out.size
   have HLT := Lib.hid (show ∀ k, wr.heap.size ≤ k → True ∧ some k ≠ (Value.slice A1 j k1).ownBlock from fun k hk => ⟨trivial, fun e => by have := Kd.S_lt HR.out k e.symm; omega⟩)
   subst hA
   clear hs hsr hsm hC0 hC1
   obtain ⟨ad', B0', d0', B1', d1', hA', z0, z1, _, _, _, _⟩ := at_T34 HC.out (j : Int) (by omega) (by omega)
   injection hA' with hA'
   subst hA'
   have hbw : Below w.heap.size w wr := HN.out ▸ HB.out
   rw [Int.toNat_natCast] at z0 z1
   have Y0 := Lib.hid ((show w.cell? (ad.add (j * 2)) = wr.cell? (ad.add (j * 2)) from z0.trans (below_cells hbw _ _ z0).symm).trans x0)
   have Y1 := Lib.hid ((show w.cell? ⟨(ad.add (j * 2)).block, (ad.add (j * 2)).off + 1, none⟩ = wr.cell? ⟨(ad.add (j * 2)).block, (ad.add (j * 2)).off + 1, none⟩ from z1.trans (below_cells hbw _ _ z1).symm).trans x1)
   clear z0 z1 hbw
   have y0 := x0
   have y1 := x1
   go_upto_region 5 with (fail)
   go_region_held3 (fun w' => w'.cell? (ad.add (j * 2)) = some (.slice B0 s.f0.length d0) ∧ w'.cell? ⟨(ad.add (j * 2)).block, (ad.add (j * 2)).off + 1, none⟩ = some (.slice B1 s.f1.length d1))
    (first | (go_keep; done) | exact ⟨k0, k1'⟩)
    (first | (go_at_call 40; refine HRM.out.mono ?_; rintro e w3 ⟨A5, c5, rfl, hr3, hb3⟩; have hb13 : Below wr.heap.size wr w3 := Below.trans (below_drew (Below.refl _ wr)) hb3; have k0 := below_cells hb13 _ _ y0; have k1' := below_cells hb13 _ _ y1; have HR3 := Lib.hid hr3; have HB3 := Lib.hid hb13; clear hr3 hb3 hb13) | (go_at_call 41; refine (HRL.out w3 HB3.out).mono ?_; rintro e w4 ⟨A6, c6, rfl, hs4, hb4⟩; have HR4 := Lib.hid (Kd.R_below HR3.out hb4); have hb14 : Below wr.heap.size wr w4 := HB3.out.trans (hb4.mono HB3.out.size); clear k0 k1'; have k0 := below_cells hb14 _ _ y0; have k1' := below_cells hb14 _ _ y1; have HS4 := Lib.hid hs4; have HB4 := Lib.hid hb14; have HZ3 := Lib.hid (show wr.heap.size ≤ w3.heap.size from HB3.out.size); have HO := Lib.hid (show Kd.S kSpS 34 w4 N (fun k => True ∧ ¬ wr.heap.size ≤ k) (.slice A1 j k1) ((ss.take j).map .inl) from Kd.S_mono (Kd.S_below (Kd.S_bound HR.out) hb14) (fun k hk => ⟨trivial, by have := hk.2.2.1; omega⟩)); have HM := Lib.hid (kRS_mkM w4 N (fun k => wr.heap.size ≤ k) s (Kd.R_lower (Kd.R_mono (Kd.R_bound HR4.out) (fun k hk => hk.2.1)) hNr) (Kd.S_lower (Kd.S_mono (Kd.S_bound HS4.out) (fun k hk => Nat.le_trans HZ3.out hk.2.1)) (Nat.le_trans hNr HZ3.out))); have HBN := Lib.hid (HB.out.trans (hb14.mono hNr)); have HSZ := Lib.hid (Nat.le_trans hNr hb14.size); clear hs4 hb4 hb14) | (refine Kd.S_append_step kSpS (w0 := w) (W := w4) N (by rfl) (.tmp 12) (.tmp 26) 25 34 _ 48 rfl Tryz.underlying25 info_spS rfl (by decide) (by decide) (.slice A1 j k1) ((ss.take j).map .inl) (.inl s) _ (fun _ => True) (fun k => wr.heap.size ≤ k) rfl rfl HM.out HLT.out (fun _ _ => trivial) HO.out HBN.out HSZ.out (by rw [htl]; omega) ?_; intro u1 w7 hr7 hb7 hg7 hat7; rw [← HTK.out] at hr7; obtain ⟨A2, k2, hu2⟩ := Kd.S_slice hr7; have hl2 : ((ss.take (j + 1)).map (Sum.inl (β := Smm))).length = j + 1 := (by rw [List.length_map, List.length_take]; omega); rw [hl2] at hu2; subst hu2; clear k0 k1'; have k0 := below_cells (HN.out ▸ hb7 : Below w.heap.size w w7) _ _ Y0.out; have k1' := below_cells (HN.out ▸ hb7 : Below w.heap.size w w7) _ _ Y1.out; have HR7 := Lib.hid hr7; have HB7 := Lib.hid hb7; clear hr7 hb7 hg7 hat7 hl2))
   rename_i hHeld
   clear hHeld k0 k1' y0 y1 x0 x1
   go_wp2_with fail
   go_roundw
   case rel => exact ⟨j + 1, A2, k2, by omega, rfl, by go_num, HR7.out, HB7.out⟩
   case measure => simp [intOf]; omega
  ·obtain rfl : j = ss.length := by omega
   rw [List.take_length] at HR
   obtain ⟨wo, rfl⟩ : ∃ wo : World, wo = wr := ⟨_, rfl⟩
   go_wp2_with fail
   go_loopw [3, 5] (fun v i wr => ∃ (m : Nat) (A2 : Option Addr) (k2 : Nat), m ≤ 64 ∧ v = .slice A2 (ss.length + m) k2 ∧ i = .int .i64 m ∧ Kd.S kSpS 34 wr N (fun _ => True) (.slice A2 (ss.length + m) k2) (spareS ss m) ∧ Below N w wr) (fun _ i _ => 64 - (intOf i).toNat)
   case atStart => exact ⟨0, A1, k1, by omega, rfl, rfl, by rw [spareS_zero]; exact HR.out, HB.out⟩
   case round =>
    clear HR HB
    obtain ⟨m, A2, k2, hm2, rfl, rfl, hr, hb⟩ := hrel
    have HR := Lib.hid hr
    have HB := Lib.hid hb
    have hNr : N ≤ wr.heap.size := HN.out ▸ hb.size
    clear hr hb
    by_cases hlt2 : m < 64
    ·have hs1 : IntKind.i64.wrap (-66 - (m : Int)) = -66 - (m : Int) := IntWalk.i64_in _ (by omega)
     have hbx := below1 wr (.cells #[.int .i64 (-66 - (m : Int))] 3)
     have HM := Lib.hid (show kSpS.M (wr.alloc (.cells #[.int .i64 (-66 - (m : Int))] 3)) N (fun k => wr.heap.size ≤ k) (.inr ⟨[-66 - (m : Int)], []⟩) [.slice (some ⟨wr.heap.size, 0, none⟩) 1 1, .slice none 0 0] from
      k34_mkM _ N _ ⟨[-66 - (m : Int)], []⟩ (Kd.R_lower (Kd.R_mono (Kd.R_bound (int_lit (-66 - (m : Int)) wr wr.heap.size (Nat.le_refl _))) (fun k hk => hk.2.1)) hNr) (Kd.R_nil _ _ _ _ _))
     have HO := Lib.hid (show Kd.S kSpS 34 (wr.alloc (.cells #[.int .i64 (-66 - (m : Int))] 3)) N (fun k => True ∧ ¬ wr.heap.size ≤ k) (.slice A2 (ss.length + m) k2) (spareS ss m) from Kd.S_mono (Kd.S_below (Kd.S_bound HR.out) hbx) (fun k hk => ⟨trivial, by have := hk.2.2.1; omega⟩))
     have HLT := Lib.hid (show ∀ k, wr.heap.size ≤ k → True ∧ some k ≠ (Value.slice A2 (ss.length + m) k2).ownBlock from fun k hk => ⟨trivial, fun e => by have := Kd.S_lt HR.out k e.symm; omega⟩)
     have HB5 := Lib.hid (HB.out.trans (hbx.mono hNr))
     have HSZ := Lib.hid (Nat.le_trans hNr hbx.size)
     clear hbx hNr HR HB
     go_wp2_with (first | (at_builtin; refine Kd.S_append kSpS (w0 := w) (W := wr.alloc (.cells #[.int .i64 (-66 - (m : Int))] 3)) N rfl (.tmp 32) (.tmp 37) 25 34 _ 48 rfl Tryz.underlying25 info_spS rfl (by decide) (by decide) (.slice A2 (ss.length + m) k2) (spareS ss m) (.inr ⟨[-66 - (m : Int)], []⟩) _ (fun _ => True) (fun k => wr.heap.size ≤ k) rfl (by rw [show (wr.alloc (.cells #[.int .i64 (-66 - (m : Int))] 3)).heap.size = wr.heap.size + 1 by simp]; rfl) HM.out HLT.out (fun _ _ => trivial) HO.out HB5.out HSZ.out (by rw [spareS_length]; omega) ?_; intro u1 w7 hr7 hb7 hg7 hat7; rw [spareS_step] at hr7; obtain ⟨A3, k3, hu3⟩ := Kd.S_slice hr7; rw [spareS_length] at hu3; subst hu3; have HR7 := Lib.hid hr7; have HB7 := Lib.hid hb7; clear hr7 hb7 hg7 hat7))
     go_roundw
     case rel => exact ⟨m + 1, A3, k3, by omega, rfl, by go_num, HR7.out, HB7.out⟩
     case measure => simp [intOf]; omega
    ·obtain rfl : m = 64 := by omega
     have hcap := (Kd.S_reads' HR.out).2.1
     have hc0 : (0 : Int) ≤ (ss.length : Int) := by omega
     have hc1 : (ss.length : Int) ≤ (k2 : Int) := by omega
     go_wp2_with fail
     go_ret
     exact ⟨A2, k2, rfl, HN.out ▸ HR.out, HN.out ▸ HB.out⟩
set_option maxRecDepth 100000 in
set_option maxHeartbeats 3200000 in
theorem eqSums_yes (A : Option Addr) (a : Nat) (B : Option Addr) (b : Nat) (ss : List Smm) (w : World) (hA : k34.C w A ss.length ss) (hB : k34.C w B ss.length ss) (hl : ss.length ≤ 2147483647) (hs : ∀ s ∈ ss, SmallSm s) :
  Calls Tryz.prog 26 #[.slice A ss.length a, .slice B ss.length b] w fun e w' => e = .returned (.bool true) ∧ Below w.heap.size w w' := by
 have HA := Lib.hid hA
 have HB := Lib.hid hB
 have HS := Lib.hid hs
 clear hA hB hs
 go_enter Tryz.func26, Tryz.ntmps26
 go_wp2_with fail
 go_loopw [5] (fun i wr => ∃ j : Nat, j ≤ ss.length ∧ i = .int .i64 j ∧ Below w.heap.size w wr) (fun i _ => ss.length - (intOf i).toNat)
 case atStart => exact ⟨0, by omega, rfl, Below.refl _ _⟩
 case round =>
  obtain ⟨j, hj, rfl, hb⟩ := hrel
  have HBW := Lib.hid hb
  clear hb
  by_cases hlt : j < ss.length
  ·obtain ⟨ad, A0, c0, A1, c1, hA, x0, x1, _, h0, _, h1⟩ := at_T34 (Kd.C_below HA.out HBW.out) (j : Int) (by omega) (by omega)
   obtain ⟨bd, B0, d0, B1, d1, hB, y0, y1, _, g0, _, g1⟩ := at_T34 (Kd.C_below HB.out HBW.out) (j : Int) (by omega) (by omega)
   have hsr : rd_T34 ss (j : Int) = ss.getD j zS := by rw [rd_T34, Int.toNat_natCast]
   have hsm := HS.out _ (getD_memA ss j zS hlt)
   rw [hsr] at x0 x1 h0 h1 y0 y1 g0 g1
   rw [Int.toNat_natCast] at x0 x1 y0 y1
   generalize ss.getD j zS = s at *
   have HE := Lib.hid (eqSummary_yes A0 c0 B0 d0 s.f0 A1 c1 B1 d1 s.f1 wr.drew h0 g0 h1 g1 (by have := hsm.1; omega) (by have := hsm.2.1; omega) (fun r hr => by have := hsm.2.2 r hr; omega))
   subst hA
   subst hB
   clear h0 h1 g0 g1 hsm hsr
   go_upto_region 6 with (fail)
   go_still_tail 8, (by kernel_rfl)
   change wpList _ _ _ _ _ wr.drew
   go_wp2_with fail
   refine HE.out.mono ?_
   rintro e w3 ⟨rfl, hb3⟩
   have HB3 := Lib.hid (HBW.out.trans ((Below.trans (below_drew (Below.refl _ wr)) hb3 : Below wr.heap.size wr w3).mono HBW.out.size))
   clear x0 x1 y0 y1 hb3
   go_wp2_with fail
   go_roundw
   case rel => exact ⟨j + 1, by omega, by go_num, HB3.out⟩
   case measure => simp [intOf]; omega
  ·obtain rfl : j = ss.length := by omega
   go_wp2_with fail
   go_ret
   exact ⟨rfl, HBW.out⟩
theorem spareL_at (t : Int) (rows : List (List Int)) (m j : Nat) (h : j < rows.length) : (spareL t rows m)[j]? = some (.inl rows[j]) := by
 rw [spareL, List.getElem?_append_left (by simpa using h), List.getElem?_map, List.getElem?_eq_getElem h]
 rfl
theorem spareL_mark (t : Int) (rows : List (List Int)) (m j : Nat) (h : j < m) : (spareL t rows m)[rows.length + j]? = some (.inr [t - (j : Int)]) := by
 rw [spareL, List.getElem?_append_right (by simp)]
 simp [h]
theorem spareL_row {t : Int} {w : World} {ad : Addr} {rows : List (List Int)} (h : (kRw t).C w (some ad) (rows.length + 64) (spareL t rows 64)) (j : Nat) (hj : j < rows.length) :
  ∃ A3 c3, w.cell? (ad.add j) = some (.slice A3 rows[j].length c3) ∧ rows[j].length + 64 ≤ c3 ∧ (Kd.int .i64).C w A3 (rows[j].length + 64) (rows[j] ++ marks t) := by
 obtain ⟨ad', e, hc⟩ := h.2.2 (by omega)
 cases e
 obtain ⟨c, h1, h2, h3⟩ := hc _ _ (spareL_at t rows 64 j hj)
 have h4 : (kRoom t).K w rows[j] c := h2
 obtain ⟨A3, c3, rfl, q1, q2⟩ := h4
 have := h3 0 _ rfl
 rw [show j * (kRw t).sz + 0 = j from Nat.mul_one j] at this
 exact ⟨A3, c3, this, q1, q2⟩
theorem spareL_cell {t : Int} {w : World} {ad : Addr} {rows : List (List Int)} (h : (kRw t).C w (some ad) (rows.length + 64) (spareL t rows 64)) (j : Nat) (hj : j < 64) :
  ∃ bd c3, w.cell? (ad.add (rows.length + j)) = some (.slice (some bd) 1 c3) ∧ w.cell? bd = some (.int .i64 (t - (j : Int))) := by
 obtain ⟨ad', e, hc⟩ := h.2.2 (by omega)
 cases e
 obtain ⟨c, h1, h2, h3⟩ := hc _ _ (spareL_mark t rows 64 j hj)
 have h4 : (Kd.slice 3 (Kd.int .i64)).K w [t - (j : Int)] c := h2
 obtain ⟨A3, c3, rfl, q1, q2⟩ := h4
 have h5 := h3 0 _ rfl
 rw [show (rows.length + j) * (kRw t).sz + 0 = rows.length + j from Nat.mul_one _] at h5
 obtain ⟨bd, hA, x0⟩ := Kd.at_int q2 0 (by omega) (by simp)
 subst hA
 exact ⟨bd, c3, h5, (show bd.add 0 = bd by simp [Addr.add]) ▸ (show w.cell? (bd.add 0) = some (.int .i64 (t - (j : Int))) from x0)⟩
theorem spareL_plain {t : Int} {w : World} {A : Option Addr} {rows : List (List Int)} (h : (kRw t).C w A (rows.length + 64) (spareL t rows 64)) : (Kd.slice 3 (Kd.int .i64)).C w A rows.length rows := by
 have hl := h.2.1
 refine ⟨rfl, by omega, fun hn => ?_⟩
 obtain ⟨ad, e, hc⟩ := h.2.2 (by omega)
 refine ⟨ad, e, fun j p hj => ?_⟩
 obtain ⟨hjl, hjp⟩ := List.getElem?_eq_some_iff.1 hj
 obtain ⟨c, h1, h2, h3⟩ := hc j _ (spareL_at t rows 64 j hjl)
 refine ⟨c, h1, ?_, h3⟩
 have h4 : (kRoom t).K w rows[j] c := h2
 rw [hjp] at h4
 obtain ⟨A3, c3, rfl, q1, q2⟩ := h4
 exact ⟨A3, c3, rfl, by omega, cut_C q2⟩
set_option maxRecDepth 100000 in
set_option maxHeartbeats 3200000 in
theorem keptLists_any (t : Int) (ht : -1000 ≤ t ∧ t ≤ 0) (w : World) (A : Option Addr) (c : Nat) (rows : List (List Int)) (hC : (kRw t).C w A (rows.length + 64) (spareL t rows 64)) (hc : rows.length + 64 ≤ c) (hm : rows.length ≤ 2147483647) (hs : ∀ r ∈ rows, r.length ≤ 2147483647) :
  Calls Tryz.prog 57 #[.slice A rows.length c, .int .i64 t] w fun e w' => e = .returned (.bool true) ∧ w = w' := by
 obtain ⟨ad, hA, _⟩ := hC.2.2 (by omega)
 subst hA
 have HC := Lib.hid hC
 have HS := Lib.hid hs
 clear hC hs
 have hc1 : ((rows.length : Int) + 64) ≤ (c : Int) := by omega
 have hc0 : (0 : Int) ≤ (rows.length : Int) + 64 := by omega
 go_enter Tryz.func57, Tryz.ntmps57
 go_wp2_with fail
 go_loopw [5] (fun i wr => ∃ j : Nat, j ≤ rows.length ∧ i = .int .i64 j ∧ wr = w) (fun i _ => rows.length - (intOf i).toNat)
 case atStart => exact ⟨0, by omega, rfl, by trivial⟩
 case round =>
  obtain ⟨j, hj, rfl, rfl⟩ := hrel
  by_cases hlt : j < rows.length
  ·obtain ⟨A3, c3, x0, q1, q2⟩ := spareL_row HC.out j hlt
   have hsm := HS.out _ (List.getElem_mem hlt)
   generalize rows[j] = row at *
   have HK := Lib.hid (kept_any t ht wr A3 c3 row q2 q1 hsm)
   clear q1 q2 hsm
   go_wp2_with fail
   refine HK.out.mono ?_
   rintro e w3 ⟨rfl, rfl⟩
   go_wp2_with fail
   go_roundw
   case rel => exact ⟨j + 1, by omega, by go_num, by trivial⟩
   case measure => simp [intOf]; omega
  ·obtain rfl : j = rows.length := by omega
   go_wp2_with fail
   obtain ⟨wo, rfl⟩ : ∃ wo : World, wo = wr := ⟨_, rfl⟩
   go_loopw [8] (fun i wr => ∃ j : Nat, j ≤ 64 ∧ i = .int .i64 j ∧ wr = wo) (fun i _ => 64 - (intOf i).toNat)
   case atStart => exact ⟨0, by omega, rfl, by trivial⟩
   case round =>
    obtain ⟨j, hj, rfl, rfl⟩ := hrel
    by_cases hlt : j < 64
    ·obtain ⟨bd, c3, x0, y0⟩ := spareL_cell HC.out j hlt
     have p1 : (0 : Int) ≤ (rows.length : Int) + j := by omega
     have hs1 : IntKind.i64.wrap (t - (j : Int)) = t - (j : Int) := IntWalk.i64_in _ (by omega)
     have hne : ((t - (j : Int)) != (t - (j : Int))) = false := bne_self_eq_false _
     go_wp2_with fail
     go_roundw
     case rel => exact ⟨j + 1, by omega, by go_num, by trivial⟩
     case measure => simp [intOf]; omega
    ·obtain rfl : j = 64 := by omega
     go_wp2_with fail
     go_ret
     exact ⟨rfl, rfl⟩
theorem spareS_at (ss : List Smm) (m j : Nat) (h : j < ss.length) : (spareS ss m)[j]? = some (.inl ss[j]) := by
 rw [spareS, List.getElem?_append_left (by simpa using h), List.getElem?_map, List.getElem?_eq_getElem h]
 rfl
theorem spareS_mark (ss : List Smm) (m j : Nat) (h : j < m) : (spareS ss m)[ss.length + j]? = some (.inr ⟨[-66 - (j : Int)], []⟩) := by
 rw [spareS, List.getElem?_append_right (by simp)]
 simp [h]
theorem spareS_row {w : World} {ad : Addr} {ss : List Smm} (h : kSpS.C w (some ad) (ss.length + 64) (spareS ss 64)) (j : Nat) (hj : j < ss.length) :
  ∃ A c A1 c1, w.cell? (ad.add (j * 2)) = some (.slice A ss[j].f0.length c) ∧ w.cell? ⟨(ad.add (j * 2)).block, (ad.add (j * 2)).off + 1, none⟩ = some (.slice A1 ss[j].f1.length c1) ∧ ss[j].f0.length + 64 ≤ c ∧ (Kd.int .i64).C w A (ss[j].f0.length + 64) (ss[j].f0 ++ marks (-500)) ∧ ss[j].f1.length + 64 ≤ c1 ∧ (kRw (-700)).C w A1 (ss[j].f1.length + 64) (spareL (-700) ss[j].f1 64) := by
 obtain ⟨ad', e, hc⟩ := h.2.2 (by omega)
 cases e
 obtain ⟨c, h1, h2, h3⟩ := hc _ _ (spareS_at ss 64 j hj)
 obtain ⟨A, c0, A1, c1, rfl, q1, q2, q3, q4⟩ := kRS_open (show kRS.K w ss[j] c from h2)
 have z0 := h3 0 _ rfl
 have z1 := h3 1 _ rfl
 have e1 : ad.add (j * 2 + 1) = ⟨(ad.add (j * 2)).block, (ad.add (j * 2)).off + 1, none⟩ := by
  rw [← Addr.add_add]; simp [Addr.add]
 exact ⟨A, c0, A1, c1, z0, e1 ▸ z1, q1, q2, q3, q4⟩
theorem spareS_cell {w : World} {ad : Addr} {ss : List Smm} (h : kSpS.C w (some ad) (ss.length + 64) (spareS ss 64)) (j : Nat) (hj : j < 64) :
  ∃ bd c3, w.cell? (ad.add ((ss.length + j) * 2)) = some (.slice (some bd) 1 c3) ∧ w.cell? bd = some (.int .i64 (-66 - (j : Int))) := by
 obtain ⟨ad', e, hc⟩ := h.2.2 (by omega)
 cases e
 obtain ⟨c, h1, h2, h3⟩ := hc _ _ (spareS_mark ss 64 j hj)
 obtain ⟨A0, c0, A1, c1, rfl, q1, q2, q3, q4⟩ := k34_open (show k34.K w ⟨[-66 - (j : Int)], []⟩ c from h2)
 have h5 := h3 0 _ rfl
 obtain ⟨bd, hA, x0⟩ := Kd.at_int q2 0 (by omega) (by simp)
 subst hA
 exact ⟨bd, c0, h5, (show bd.add 0 = bd by simp [Addr.add]) ▸ (show w.cell? (bd.add 0) = some (.int .i64 (-66 - (j : Int))) from x0)⟩
theorem spareS_plain {w : World} {A : Option Addr} {ss : List Smm} (h : kSpS.C w A (ss.length + 64) (spareS ss 64)) : k34.C w A ss.length ss := by
 have hl := h.2.1
 refine ⟨rfl, by omega, fun hn => ?_⟩
 obtain ⟨ad, e, hc⟩ := h.2.2 (by omega)
 refine ⟨ad, e, fun j p hj => ?_⟩
 obtain ⟨hjl, hjp⟩ := List.getElem?_eq_some_iff.1 hj
 obtain ⟨c, h1, h2, h3⟩ := hc j _ (spareS_at ss 64 j hjl)
 refine ⟨c, h1, ?_, h3⟩
 obtain ⟨A0, c0, A1, c1, rfl, q1, q2, q3, q4⟩ := kRS_open (show kRS.K w ss[j] c from h2)
 rw [hjp] at q1 q2 q3 q4
 rw [hjp]
 exact k34_mk _ _ (by omega) (cut_C q2) (by omega) (spareL_plain q4)
set_option maxRecDepth 100000 in
set_option maxHeartbeats 3200000 in
theorem staySums_any (w : World) (A : Option Addr) (c : Nat) (B : Option Addr) (b : Nat) (ss : List Smm) (hC : kSpS.C w A (ss.length + 64) (spareS ss 64)) (hc : ss.length + 64 ≤ c) (hB : k34.C w B ss.length ss) (hm : ss.length ≤ 2147483647) (hs : ∀ s ∈ ss, SmallSm s) :
  Calls Tryz.prog 15 #[.slice A ss.length c, .slice B ss.length b] w fun e w' => e = .returned (.bool true) ∧ Below w.heap.size w w' := by
 obtain ⟨ad, hA, _⟩ := hC.2.2 (by omega)
 subst hA
 have HE := Lib.hid (eqSums_yes (some ad) c B b ss w (spareS_plain hC) hB hm hs)
 have HC := Lib.hid hC
 have HS := Lib.hid hs
 clear hC hs hB
 have hc1 : ((ss.length : Int) + 64) ≤ (c : Int) := by omega
 have hc0 : (0 : Int) ≤ (ss.length : Int) + 64 := by omega
 go_enter Tryz.func15, Tryz.ntmps15
 go_wp2_with fail
 refine HE.out.mono ?_
 rintro e w1 ⟨rfl, hb⟩
 have HB := Lib.hid hb
 have HC1 := Lib.hid (Kd.C_below HC.out HB.out)
 clear hb HE
 go_wp2_with fail
 go_loopw [6] (fun i wr => ∃ j : Nat, j ≤ 64 ∧ i = .int .i64 j ∧ wr = w1) (fun i _ => 64 - (intOf i).toNat)
 case atStart => exact ⟨0, by omega, rfl, by trivial⟩
 case round =>
  obtain ⟨j, hj, rfl, rfl⟩ := hrel
  by_cases hlt : j < 64
  ·obtain ⟨bd, c3, x0, y0⟩ := spareS_cell HC1.out j hlt
   have p1 : (0 : Int) ≤ (ss.length : Int) + j := by omega
   have hs1 : IntKind.i64.wrap (-66 - (j : Int)) = -66 - (j : Int) := IntWalk.i64_in _ (by omega)
   have hne : ((-66 - (j : Int)) != (-66 - (j : Int))) = false := bne_self_eq_false _
   go_wp2_with fail
   go_roundw
   case rel => exact ⟨j + 1, by omega, by go_num, by trivial⟩
   case measure => simp [intOf]; omega
  ·have h64 : ¬ ((j : Int) < 64) := by omega
   go_wp2_with fail
   obtain ⟨wo, rfl⟩ : ∃ wo : World, wo = wr := ⟨_, rfl⟩
   go_loopw [8] (fun i wr => ∃ j : Nat, j ≤ ss.length ∧ i = .int .i64 j ∧ wr = wo) (fun i _ => ss.length - (intOf i).toNat)
   case atStart => exact ⟨0, by omega, rfl, by trivial⟩
   case round =>
    obtain ⟨j, hj, rfl, rfl⟩ := hrel
    by_cases hlt : j < ss.length
    ·obtain ⟨A3, c3, A4, c4, x0, x1, q1, q2, q3, q4⟩ := spareS_row HC1.out j hlt
     have hsm := HS.out _ (List.getElem_mem hlt)
     generalize ss[j] = s at *
     have HK := Lib.hid (kept_any (-500) (by omega) wr A3 c3 s.f0 q2 q1 hsm.1)
     have HL := Lib.hid (keptLists_any (-700) (by omega) wr A4 c4 s.f1 q4 q3 hsm.2.1 hsm.2.2)
     clear q1 q2 q3 q4 hsm
     go_wp2_with fail
     refine HK.out.mono ?_
     rintro e w3 ⟨rfl, rfl⟩
     go_wp2_with fail
     refine HL.out.mono ?_
     rintro e w4 ⟨rfl, rfl⟩
     go_wp2_with fail
     go_roundw
     case rel => exact ⟨j + 1, by omega, by go_num, by trivial⟩
     case measure => simp [intOf]; omega
    ·obtain rfl : j = ss.length := by omega
     go_wp2_with fail
     go_ret
     exact ⟨rfl, HB.out⟩
end Go.Proofs.YtcbcacbbnojdjaaGreatDoor
