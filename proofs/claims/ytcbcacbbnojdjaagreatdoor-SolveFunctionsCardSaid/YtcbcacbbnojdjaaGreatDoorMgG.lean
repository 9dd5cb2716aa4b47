/-
 Part G of what the law's proof needs: walks of the program's functions and the plain laws of what they tell. No condition.
-/
import Derived.Test.YtcbcacbbnojdjaaGreatDoorMgF
import Derived.Test.YtcbcacbbnojdjaaGreatDoorMgE2
namespace Go.Proofs.YtcbcacbbnojdjaaGreatDoor
open Go.RowKit Go.Proofs.YtcbcacbbnojdjaaGreatDoorW.PrintWords Go.Proofs.YtcbcacbbnojdjaaGreatDoor.PSolveFunctions
set_option linter.unusedVariables false
set_option linter.unusedSimpArgs false
theorem door_cell {w : World} {b : Nat} {t : TypeId} (h : w.heap[b]? = some (.cells #[.int .i64 0] t (0, 0))) (err : Int) (o : Obj) : ((w.alloc o).setCell ⟨b, 0, none⟩ (.int .i64 err)).cell? ⟨b, 0, none⟩ = some (.int .i64 err) :=
 blk_cell (blk_put (w := w.alloc o) (((below1 w o).block b (blk_lt h)).trans h) 0 (.int .i64 err) rfl) 0
theorem door_below {w0 w : World} {b : Nat} (h : Below w0.heap.size w0 w) (hb : w0.heap.size ≤ b) (o : Obj) (u : Value) : Below w0.heap.size w0 ((w.alloc o).setCell ⟨b, 0, none⟩ u) :=
 (h.alloc h.size o).setCell (p := ⟨b, 0, none⟩) hb u
def headStep (fs : List Fun) : Int → Nat → Except Int Int := fun l i => headQ l (fs.getD i zF) (fs.getD i zF).f3.length
theorem headQ_range {l n m : Int} {f : Fun} (h : headQ l f n = .ok m) (hl : 0 ≤ l ∧ l < 1048576) : 0 ≤ m ∧ m < 1048576 := by
 by_cases h1 : 0 ≤ f.f0 ∧ f.f0 ≤ (if f.f2 < 8 then f.f2 else 8) ∧ 0 ≤ f.f1 ∧ f.f1 ≤ 4 ∧ f.f2 ≤ 255 ∧ n ≤ 4096
 ·rw [headQ, if_pos h1] at h
  by_cases h2 : 1 ≤ n
  ·rw [if_pos h2] at h
   by_cases h3 : l + f.f2 < 1048576
   ·rw [if_pos h3] at h
    injection h with h
    have : 0 ≤ f.f2 := by have := h1.2.1; split at this <;> omega
    omega
   ·rw [if_neg h3] at h; cases h
  ·rw [if_neg h2] at h; cases h
 ·rw [headQ, if_neg h1] at h; cases h
def chkOf (r : Except Int Int) : Int := match r with
 | .ok _ => 0
 | .error e => e
theorem chk_heads {G : Int} {fs : List Fun} (hG : 0 ≤ G ∧ G ≤ 16) (hF : 1 ≤ (fs.length : Int) ∧ (fs.length : Int) ≤ 65535) {e : Int} (h : runTo (headStep fs) 0 fs.length = .error e) : chk G fs = e := by
 have h' : headsQ fs = .error e := h
 rw [chk, chkQ, if_pos hG, if_pos hF, h']
theorem chk_codes {G : Int} {fs : List Fun} (hG : 0 ≤ G ∧ G ≤ 16) (hF : 1 ≤ (fs.length : Int) ∧ (fs.length : Int) ≤ 65535) {l : Int} (h : runTo (headStep fs) 0 fs.length = .ok l) : chk G fs = chkOf (codesQ G fs l) := by
 have h' : headsQ fs = .ok l := h
 rw [chk, chkQ, if_pos hG, if_pos hF, h']
 unfold chkOf
 rfl
theorem codes_err {G : Int} {fs : List Fun} {f : Fun} {l0 l1 l err : Int} {j k : Nat} (hj : j < fs.length) (h0 : runTo (codeQ G fs) l0 j = .ok l1) (hf : f = fs.getD j zF) (hk : k < f.f3.length) (h1 : runTo (instrQ G fs f) l1 k = .ok l) (he : instrQ G fs f l k = .error err) : chkOf (codesQ G fs l0) = err := by
 have h2 : codeQ G fs l1 j = .error err := by
  rw [codeQ, ← hf]
  exact runTo_err h1 he hk
 have h3 : codesQ G fs l0 = .error err := runTo_err h0 h2 hj
 rw [h3]
 rfl
theorem instr_ok {G : Int} {fs : List Fun} {f : Fun} {l l' : Int} {k : Nat} (h : opQ l (f.f3.getD k zI) (decide (k + 1 = f.f3.length)) = .ok l') (hp : partsQ G fs f (f.f3.getD k zI) f.f3.length = .ok ()) : instrQ G fs f l k = .ok l' := by
 rw [instrQ, h]
 dsimp only
 rw [hp]
theorem instr_err {G : Int} {fs : List Fun} {f : Fun} {l l' err : Int} {k : Nat} (h : opQ l (f.f3.getD k zI) (decide (k + 1 = f.f3.length)) = .ok l') (hp : partsQ G fs f (f.f3.getD k zI) f.f3.length = .error err) : instrQ G fs f l k = .error err := by
 rw [instrQ, h]
 dsimp only
 rw [hp]
theorem opQ_range {l m : Int} {x : Ins} {last : Bool} (h : opQ l x last = .ok m) (hl : 0 ≤ l ∧ l < 1048576) : 1 ≤ x.f0 ∧ x.f0 < 18 ∧ 0 ≤ m ∧ m < 1048576 := by
 by_cases h1 : 1 ≤ x.f0 ∧ x.f0 < 18
 ·rw [opQ, if_pos h1] at h
  cases h2 : plainB (table.getD x.f0.toNat []) x with
  | false => rw [h2, if_neg (by decide)] at h; cases h
  | true =>
   rw [h2, if_pos rfl] at h
   by_cases h3 : last = false ∨ x.f0 = 13 ∨ x.f0 = 15
   ·rw [if_pos h3] at h
    by_cases h4 : x.f0 = 6
    ·rw [if_pos h4] at h
     by_cases h5 : l + 1 < 1048576
     ·rw [if_pos h5] at h
      injection h with h
      omega
     ·rw [if_neg h5] at h; cases h
    ·rw [if_neg h4] at h
     injection h with h
     omega
   ·rw [if_neg h3] at h; cases h
 ·rw [opQ, if_neg h1] at h; cases h
set_option maxRecDepth 100000 in
set_option maxHeartbeats 3200000 in
theorem first_any (G : Int) (A : Option Addr) (c : Nat) (fs : List Fun) (w : World) (hC : k66.C w A fs.length fs) (hlen : fs.length ≤ 2147483647) (hcode : ∀ f ∈ fs, f.f3.length ≤ 2147483647 ∧ ∀ x ∈ f.f3, x.f5.length ≤ 2147483647 ∧ x.f6.length ≤ 2147483647) :
  Calls Tryz.prog 107 #[.agg #[.int .i64 G, .slice A fs.length c]] w fun e w' => e = .returned (.int .i64 (chk G fs)) ∧ Below w.heap.size w w' := by
 have hmf : ∀ (fn : Fn) (first cap : Array Value) (w : World), (Instr.makeFunc fn first cap).run Tryz.prog w = .ok (.func fn first cap) w := fun _ _ _ _ => rfl
 have HC := Lib.hid hC
 clear hC
 go_enter_defers Tryz.func107, Tryz.ntmps107
 go_wp2_with fail
 have f1 : ((w.alloc (.cells #[.int .i64 G, .slice A fs.length c] 24)).alloc (.cells #[.int .i64 0] 35)).heap[w.heap.size]? = some (.cells #[.int .i64 G, .slice A fs.length c] 24 (0, 0)) := ((below1 _ _).block _ (by simp)).trans (alloc_new _ _)
 have f2 : ((w.alloc (.cells #[.int .i64 G, .slice A fs.length c] 24)).alloc (.cells #[.int .i64 0] 35)).heap[w.heap.size + 1]? = some (.cells #[.int .i64 0] 35 (0, 0)) := by
  have := alloc_new (w.alloc (.cells #[.int .i64 G, .slice A fs.length c] 24)) (.cells #[.int .i64 0] 35)
  simpa using this
 have hb0 : Below w.heap.size w ((w.alloc (.cells #[.int .i64 G, .slice A fs.length c] 24)).alloc (.cells #[.int .i64 0] 35)) := (below1 _ _).alloc (by simp) _
 generalize World.alloc _ _ = W at f1 f2 hb0 ⊢
 obtain ⟨b1, hb1⟩ : ∃ b1, w.heap.size = b1 := ⟨_, rfl⟩
 have HCODE := Lib.hid hcode
 clear hcode
 have HB0 := Lib.hid hb0
 have H1 := Lib.hid hb1
 clear hb0
 rw [hb1] at f1 f2 ⊢
 clear hb1
 generalize hb2 : b1 + 1 = b2 at f2 ⊢
 have H2 := Lib.hid (show b1 ≤ b2 by omega)
 clear hb2
 have F1 := Lib.hid f1
 have F2 := Lib.hid f2
 have k0 := blk_cell f1 0
 have k1 := blk_cell f1 1
 simp only [List.getElem?_toArray, List.getElem?_cons_succ, List.getElem?_cons_zero] at k0 k1
 clear f1 f2
 have HK := Lib.hid (And.intro k0 k1)
 go_region_held3 (fun w' => w'.cell? ⟨b1, 0, none⟩ = some (.int .i64 G) ∧ w'.cell? ⟨b1, 1, none⟩ = some (.slice A fs.length c))
  (first | go_keep | exact HK2.out | exact HK.out)
  (first | (go_at_call 141; refine (operations_any _).mono ?_; rintro e w1 ⟨tg, tc, rfl, hT, hb⟩; have HK2 := Lib.hid (And.intro (below_cells hb _ _ HK.out.1) (below_cells hb _ _ HK.out.2)); have HT := Lib.hid hT; have HB := Lib.hid hb; clear hT hb))
 rename_i hHeld
 clear hHeld HK HK2 k0 k1
 have HB1 := Lib.hid (show Below b1 w w1 from (H1.out ▸ HB0.out).trans ((below_drew (Below.refl _ _)).trans (HB.out.mono (show b1 ≤ W.drew.heap.size from Nat.le_of_lt (blk_lt F1.out)))))
 have f1 : w1.heap[b1]? = some (.cells #[.int .i64 G, .slice A fs.length c] 24 (0, 0)) := (HB.out.block _ (blk_lt F1.out)).trans F1.out
 have f2 : w1.heap[b2]? = some (.cells #[.int .i64 0] 35 (0, 0)) := (HB.out.block _ (blk_lt F2.out)).trans F2.out
 replace F1 := Lib.hid f1
 replace F2 := Lib.hid f2
 have hC1 : k66.C w1 A fs.length fs := Kd.C_below HC.out (H1.out ▸ HB1.out)
 replace HC := Lib.hid hC1
 clear f1 f2 hC1 HB HB0
 have ha := alloc_new w1 (.cells #[.int .i64 G, .slice A fs.length c, .slice (some ⟨tg, 0, none⟩) 18 tc, .int .i64 0, .int .i64 0] 199)
 have hb := below1 w1 (.cells #[.int .i64 G, .slice A fs.length c, .slice (some ⟨tg, 0, none⟩) 18 tc, .int .i64 0, .int .i64 0] 199)
 generalize World.alloc _ _ = W2 at ha hb ⊢
 obtain ⟨a, hA⟩ : ∃ a, w1.heap.size = a := ⟨_, rfl⟩
 rw [hA] at ha hb ⊢
 have HA := Lib.hid hA
 have HW := Lib.hid (show AskerAt W2 a (.int .i64 G) (.slice A fs.length c) (.slice (some ⟨tg, 0, none⟩) 18 tc) 0 from ha)
 have HB := Lib.hid hb
 clear hA ha hb
 have hlt1 : b1 < a := HA.out ▸ blk_lt F1.out
 have hlt2 : b2 < a := HA.out ▸ blk_lt F2.out
 have HBW := Lib.hid (show Below w.heap.size w W2 from H1.out ▸ HB1.out.trans (HB.out.mono (Nat.le_of_lt hlt1)))
 have kb1 : W2.heap[b1]? = _ := (HB.out.block _ hlt1).trans F1.out
 have k0 := blk_cell kb1 0
 have k1 := blk_cell kb1 1
 have kb2 : W2.heap[b2]? = _ := (HB.out.block _ hlt2).trans F2.out
 have e2 := blk_cell kb2 0
 have z2 := blk_frozen kb2 0
 simp only [List.getElem?_toArray, List.getElem?_cons_succ, List.getElem?_cons_zero] at k0 k1 e2
 have KB2 := Lib.hid kb2
 have h4 : W2.cell? ⟨a, 4, none⟩ = some (.int .i64 0) := blk_cell HW.out 4
 clear kb1 kb2
 by_cases hG : 0 ≤ G ∧ G ≤ 16
 ·have hg := globals_any a G W2 h4
  rw [decide_eq_true hG, asked_yes] at hg
  have HG := Lib.hid hg
  clear hg
  by_cases hF : 1 ≤ (fs.length : Int) ∧ (fs.length : Int) ≤ 65535
  ·have hf := funcs_any a fs.length W2 h4
   rw [decide_eq_true hF, asked_yes] at hf
   have HF := Lib.hid hf
   have HGR := Lib.hid hG
   have HFR := Lib.hid hF
   clear hf hF hG
   go_wp2_with fail
   refine HG.out.mono ?_
   rintro e w2 ⟨rfl, rfl⟩
   go_wp2_with fail
   refine HF.out.mono ?_
   rintro e w2 ⟨rfl, rfl⟩
   go_wp2_with fail
   clear k0 k1 e2 z2 h4
   go_loopw [28] (fun i wr => ∃ (j : Nat) (l : Int), j ≤ fs.length ∧ i = .int .i64 j ∧ 0 ≤ l ∧ l < 1048576 ∧ runTo (headStep fs) 0 j = .ok l ∧ AskerAt wr a (.int .i64 G) (.slice A fs.length c) (.slice (some ⟨tg, 0, none⟩) 18 tc) l ∧ Below a w1 wr) (fun i _ => fs.length - (intOf i).toNat)
   case atStart => exact ⟨0, 0, by omega, rfl, by omega, by omega, rfl, HW.out, HB.out⟩
   case round =>
    obtain ⟨j, l, hj, rfl, hl0, hl1, hR, hW, hB⟩ := hrel
    replace HW := Lib.hid hW
    replace HB := Lib.hid hB
    have HR := Lib.hid hR
    clear hW hB hR KB2 HBW HG HF
    have kb1 : wr.heap[b1]? = _ := (HB.out.block _ hlt1).trans F1.out
    have k1 := blk_cell kb1 1
    have c4 := blk_cell HW.out 4
    simp only [List.getElem?_toArray, List.getElem?_cons_succ, List.getElem?_cons_zero] at k1 c4
    clear kb1
    by_cases hlt : j < fs.length
    ·have hCr : k66.C wr A fs.length fs := Kd.C_below HC.out (HA.out ▸ HB.out)
     obtain ⟨ad, A3, c3, hAd, e0, e1, e2, e3, l3, _⟩ := at_T66 hCr (j : Int) (by omega) (by omega)
     have hqa : (ad.add (j * 4)).block ≠ a := by
      have h1 := (at_T66 HC.out (j : Int) (by omega) (by omega))
      obtain ⟨ad', _, _, hAd', e0', _⟩ := h1
      rw [hAd] at hAd'
      injection hAd' with hAd'
      subst hAd'
      have := World.block_lt_of_cell? w1 _ e0'
      rw [HA.out, Int.toNat_natCast] at this
      exact Nat.ne_of_lt this
     subst hAd
     obtain ⟨f, hf0⟩ : ∃ f, f = fs.getD j zF := ⟨_, rfl⟩
     have hfr : rd_T66 fs (j : Int) = f := by rw [rd_T66, Int.toNat_natCast]; exact hf0.symm
     rw [hfr, Int.toNat_natCast] at e0 e1 e2 e3
     have HFJ := Lib.hid hf0
     have HQA := Lib.hid hqa
     clear hf0 hfr hCr hqa l3
     obtain ⟨nc, hnc⟩ : ∃ nc, nc = f.f3.length := ⟨_, rfl⟩
     rw [← hnc] at e3
     have HNC := Lib.hid hnc
     clear hnc
     go_wp2_with fail
     refine wp_region_still_tail 12 (by kernel_rfl) (by kernel_rfl) ?_
     change wpStill _ _ wr.drew (fun a' => wpList _ _ _ _ a' wr.drew) _ _
     simp only [List.take_succ_cons, List.take_zero, List.drop_succ_cons, List.drop_zero]
     repeat still_step
     refine wpStill_nil ?_
     go_wp2_with fail
     refine (head_any a (ad.add (j * 4)) nc l f wr.drew _ _ _ HW.out e0 e1 e2 HQA.out ⟨hl0, hl1⟩).mono ?_
     rintro e w2 ⟨he, hK, hN⟩
     have HB3 := Lib.hid (hK.below (pw_below_drewN HB.out 1) (Nat.le_of_eq HA.out.symm) (Nat.le_refl _))
     have HQJ := Lib.hid (show headStep fs l j = headQ l f nc by rw [headStep, ← HFJ.out, HNC.out])
     cases hq : headQ l f nc with
     | error err =>
      rw [hq] at he
      subst he
      have HQ := Lib.hid (chk_heads HGR.out HFR.out (runTo_err HR.out (HQJ.out.trans hq) hlt))
      have kb2 : w2.heap[b2]? = _ := (HB3.out.block _ hlt2).trans F2.out
      have e2' := blk_cell kb2 0
      have z2' := blk_frozen kb2 0
      unfold ends thrown
      dsimp only
      refine leaves_cons (f := 140) (args := #[.pointer (some ⟨b2, 0, none⟩)]) (by simp) (by simp [go_sem]) ?_
      refine (catch_thrown ⟨b2, 0, none⟩ err 0 [] _ e2' z2').mono ?_
      rintro e u' w'' ⟨rfl, rfl, rfl⟩
      have hv := door_cell kb2 err (.cells #[.int .i64 err, .int .i64 0] 193)
      simp [Leaves, settle, results, Tryz.results107, go_sem, hv]
      exact ⟨HQ.out.symm, door_below (H1.out ▸ HB1.out.trans (HB3.out.mono (Nat.le_of_lt hlt1))) (H1.out ▸ H2.out) _ _⟩
     | ok l' =>
      rw [hq] at he
      subst he
      have HN := Lib.hid (hN l' hq)
      have hrg := headQ_range hq ⟨hl0, hl1⟩
      have HS := Lib.hid ((runTo_succ HR.out).trans (HQJ.out.trans hq))
      clear hN hq
      unfold ends
      dsimp only
      go_wp2_with fail
      go_roundw
      case rel => exact ⟨j + 1, l', by omega, by go_num, hrg.1, hrg.2, HS.out, HN.out, HB3.out⟩
      case measure => simp [intOf]; omega
    ·obtain rfl : j = fs.length := by omega
     have HL0 := Lib.hid (chk_codes HGR.out HFR.out HR.out)
     obtain ⟨l0, hl00⟩ : ∃ l0, l0 = l := ⟨_, rfl⟩
     rw [← hl00] at HL0
     have HST := Lib.hid (show runTo (codeQ G fs) l0 0 = .ok l from hl00 ▸ rfl)
     clear hl00 HR
     go_wp2_with fail
     clear k1 c4
     obtain ⟨wo, hwo⟩ : ∃ wo : World, wo = wr := ⟨_, rfl⟩
     rw [← hwo] at HW HB ⊢
     clear hwo wr
     go_loopw [48] (fun i wr => ∃ (j : Nat) (l : Int), j ≤ fs.length ∧ i = .int .i64 j ∧ 0 ≤ l ∧ l < 1048576 ∧ runTo (codeQ G fs) l0 j = .ok l ∧ AskerAt wr a (.int .i64 G) (.slice A fs.length c) (.slice (some ⟨tg, 0, none⟩) 18 tc) l ∧ Below a w1 wr) (fun i _ => fs.length - (intOf i).toNat)
     case atStart => exact ⟨0, l, by omega, rfl, hl0, hl1, HST.out, HW.out, HB.out⟩
     case round =>
      clear hl0 hl1 HST HW HB l
      obtain ⟨j, l, hj, rfl, hl0, hl1, hR, hW, hB⟩ := hrel
      have HW := Lib.hid hW
      have HB := Lib.hid hB
      have HR := Lib.hid hR
      clear hW hB hR
      have kb1 : wr.heap[b1]? = _ := (HB.out.block _ hlt1).trans F1.out
      have k1 := blk_cell kb1 1
      simp only [List.getElem?_toArray, List.getElem?_cons_succ, List.getElem?_cons_zero] at k1
      clear kb1
      by_cases hlt : j < fs.length
      ·obtain ⟨ad, A3, c3, hAd, e0, e1, e2, e3, l3, hC3⟩ := at_T66 (Kd.C_below HC.out (HA.out ▸ HB.out) : k66.C wr A fs.length fs) (j : Int) (by omega) (by omega)
       obtain ⟨ad', A3', c3', hAd', g0, g1, g2, g3, l3', hC3'⟩ := at_T66 HC.out (j : Int) (by omega) (by omega)
       rw [hAd] at hAd'
       injection hAd' with hAd'
       subst hAd'
       clear e0 e1 e2 l3 hC3 l3'
       obtain ⟨f, hf0⟩ : ∃ f, f = fs.getD j zF := ⟨_, rfl⟩
       have hfr : rd_T66 fs (j : Int) = f := by rw [rd_T66, Int.toNat_natCast]; exact hf0.symm
       rw [hfr, Int.toNat_natCast] at e3 g0 g1 g2 g3
       rw [hfr] at hC3'
       have e3' := below_cells (HA.out ▸ HB.out) _ _ g3
       rw [e3'] at e3
       obtain ⟨nc, hnc⟩ : ∃ nc, nc = f.f3.length := ⟨_, rfl⟩
       rw [← hnc] at e3' hC3'
       have hmem : f ∈ fs := hf0 ▸ (by rw [List.getD_eq_getElem?_getD, List.getElem?_eq_getElem hlt]; exact List.getElem_mem hlt)
       have hsm := HCODE.out f hmem
       have hncs : nc ≤ 2147483647 := hnc ▸ hsm.1
       have HSM := Lib.hid hsm.2
       have HNC := Lib.hid hnc
       have HFJ := Lib.hid hf0
       have HCD := Lib.hid hC3'
       have HG1 := Lib.hid g1
       have HG2 := Lib.hid g2
       have HG3 := Lib.hid g3
       have HAD := Lib.hid hAd
       clear hf0 hfr hC3' hnc hmem hsm g0 g1 g2 g3 e3
       rw [hAd] at k1
       clear hAd
       go_wp2_with fail
       clear k1 e3'
       obtain ⟨wo, hwo⟩ : ∃ wo : World, wo = wr := ⟨_, rfl⟩
       rw [← hwo] at HW HB ⊢
       clear hwo wr
       obtain ⟨l1, hl1'⟩ : ∃ l1, l1 = l := ⟨_, rfl⟩
       have HST := Lib.hid (show runTo (instrQ G fs f) l1 0 = .ok l from hl1' ▸ rfl)
       rw [← hl1'] at HR
       clear hl1'
       go_loopw [60] (fun i wr => ∃ (k : Nat) (l : Int), k ≤ nc ∧ i = .int .i64 k ∧ 0 ≤ l ∧ l < 1048576 ∧ runTo (instrQ G fs f) l1 k = .ok l ∧ AskerAt wr a (.int .i64 G) (.slice A fs.length c) (.slice (some ⟨tg, 0, none⟩) 18 tc) l ∧ Below a w1 wr) (fun i _ => nc - (intOf i).toNat)
       case atStart => exact ⟨0, l, by omega, rfl, hl0, hl1, HST.out, HW.out, HB.out⟩
       case round =>
        clear hl0 hl1 HST HW HB l
        obtain ⟨k, l, hk, rfl, hl0, hl1, hR2, hW, hB⟩ := hrel
        have HW := Lib.hid hW
        have HB := Lib.hid hB
        have HR2 := Lib.hid hR2
        clear hW hB hR2
        have e3 := below_cells (HA.out ▸ HB.out) _ _ HG3.out
        rw [← HNC.out] at e3
        by_cases hlt' : k < nc
        ·obtain ⟨cd, A5, c5, A6, c6, hCd, x0, x1, x2, x3, x4, x5, x6, l5, h5, l6, h6⟩ := at_T79 HCD.out (k : Int) (by omega) (by omega)
         obtain ⟨x, hx0⟩ : ∃ x, x = f.f3.getD k zI := ⟨_, rfl⟩
         have hxr : rd_T79 f.f3 (k : Int) = x := by rw [rd_T79, Int.toNat_natCast]; exact hx0.symm
         rw [hxr] at x0 x1 x2 x3 x4 x5 x6 h5 h6
         rw [Int.toNat_natCast] at x0 x1 x2 x3 x4 x5 x6
         have hxm : x ∈ f.f3 := hx0 ▸ (by rw [List.getD_eq_getElem?_getD, List.getElem?_eq_getElem (HNC.out ▸ hlt')]; exact List.getElem_mem _)
         have HXM := Lib.hid (HSM.out x hxm)
         have HXI := Lib.hid (show InsAt w1 (cd.add (k * 7)) x A5 c5 A6 c6 from ⟨x0, x1, x2, x3, x4, x5, x6⟩)
         have H5 := Lib.hid h5
         have H6 := Lib.hid h6
         have HXK := Lib.hid hx0
         have HCDA := Lib.hid hCd
         clear x0 x1 x2 x3 x4 x5 x6 l5 h5 l6 h6 hx0 hxr hxm
         rw [hCd] at e3
         clear hCd
         have hlast : ((k : Int) == (nc : Int) - 1) = decide (k + 1 = nc) := by
          by_cases h : k + 1 = nc
          ·rw [decide_eq_true h]; simp; omega
          ·rw [decide_eq_false h]; simp; omega
         obtain ⟨last, hla⟩ : ∃ last, last = decide (k + 1 = nc) := ⟨_, rfl⟩
         rw [← hla] at hlast
         have HLA := Lib.hid hla
         clear hla
         go_wp2_with fail
         refine (op_any a (cd.add (k * 7)) last l x A5 c5 A6 c6 wr _ _ tg tc HW.out (HXI.out.of (fun _ _ h => below_cells (HA.out ▸ HB.out) _ _ h) (fun _ h => below_cells (HA.out ▸ HB.out) _ _ h)) (HT.out.of (below_cells (HA.out ▸ HB.out))) ⟨hl0, hl1⟩).mono ?_
         rintro e w2 ⟨he, hK, hN⟩
         have HB3 := Lib.hid (hK.below HB.out (Nat.le_of_eq HA.out.symm) (Nat.le_refl _))
         clear hK hlast e3
         cases hq : opQ l x last with
         | error err =>
          rw [hq] at he
          subst he
          have HQ := Lib.hid (HL0.out.trans (codes_err hlt HR.out HFJ.out (HNC.out ▸ hlt') HR2.out (show instrQ G fs f l k = .error err by rw [instrQ, ← HXK.out, ← HNC.out, ← HLA.out, hq])))
          have kb2 : w2.heap[b2]? = _ := (HB3.out.block _ hlt2).trans F2.out
          have e2' := blk_cell kb2 0
          have z2' := blk_frozen kb2 0
          unfold ends thrown
          dsimp only
          refine leaves_cons (f := 140) (args := #[.pointer (some ⟨b2, 0, none⟩)]) (by simp) (by simp [go_sem]) ?_
          refine (catch_thrown ⟨b2, 0, none⟩ err 0 [] _ e2' z2').mono ?_
          rintro e u' w'' ⟨rfl, rfl, rfl⟩
          have hv := door_cell kb2 err (.cells #[.int .i64 err, .int .i64 0] 193)
          simp [Leaves, settle, results, Tryz.results107, go_sem, hv]
          exact ⟨HQ.out.symm, door_below (H1.out ▸ HB1.out.trans (HB3.out.mono (Nat.le_of_lt hlt1))) (H1.out ▸ H2.out) _ _⟩
         | ok l' =>
          rw [hq] at he
          subst he
          have HN := Lib.hid (hN l' hq)
          obtain ⟨ho1, ho2, hr0, hr1⟩ := opQ_range hq ⟨hl0, hl1⟩
          have HOP := Lib.hid (show opQ l (f.f3.getD k zI) (decide (k + 1 = f.f3.length)) = .ok l' by rw [← HXK.out, ← HNC.out, ← HLA.out, hq])
          clear hN hq
          unfold ends
          dsimp only
          obtain ⟨g, gc, ht0, hrow⟩ := HT.out.at_ x.f0.toNat (by omega) (by omega)
          have ht := below_cells (HA.out ▸ HB3.out) _ _ ht0
          clear ht0
          have hx0 := below_cells (HA.out ▸ HB3.out) _ _ HXI.out.e0
          have c2 := blk_cell HN.out 2
          simp only [List.getElem?_toArray, List.getElem?_cons_succ, List.getElem?_cons_zero] at c2
          obtain ⟨pl, hpl⟩ : ∃ pl, pl = (table.getD x.f0.toNat []).length := ⟨_, rfl⟩
          rw [← hpl] at ht
          have HPL := Lib.hid hpl
          have hpl3 : pl ≤ 3 := hpl ▸ table_short _
          have HROW := Lib.hid hrow
          have HO := Lib.hid (And.intro ho1 ho2)
          obtain ⟨i, hi⟩ : ∃ i : Int, i = x.f0 := ⟨_, rfl⟩
          rw [← hi] at hx0 ht ho1 ho2
          have hi0 : 0 ≤ i := by omega
          clear hrow hi hpl
          go_wp2_with fail
          go_quiet (fail)
          go_wp2_with fail
          clear ho1 ho2 hx0 ht c2
          have HN2 := Lib.hid (show AskerAt (w2.drewN nq) a (.int .i64 G) (.slice A fs.length c) (.slice (some ⟨tg, 0, none⟩) 18 tc) l' from HN.out)
          have HB4 := Lib.hid (pw_below_drewN HB3.out nq)
          clear HN HB3 HW HB
          generalize w2.drewN nq = wo at HN2 HB4 ⊢
          go_loopw [91] (fun i wr => ∃ m : Nat, m ≤ pl ∧ i = .int .i64 m ∧ runTo (fun _ j => askQ G fs f x nc ((table.getD x.f0.toNat []).getD j .i)) () m = .ok () ∧ AskerAt wr a (.int .i64 G) (.slice A fs.length c) (.slice (some ⟨tg, 0, none⟩) 18 tc) l' ∧ Below a w1 wr) (fun i _ => pl - (intOf i).toNat)
          case atStart => exact ⟨0, by omega, rfl, rfl, HN2.out, HB4.out⟩
          case round =>
           clear HN2 HB4 wo
           obtain ⟨m, hm, rfl, hR3, hW, hB⟩ := hrel
           have HW := Lib.hid hW
           have HB := Lib.hid hB
           have HR3 := Lib.hid hR3
           clear hW hB hR3
           by_cases hlt'' : m < pl
           ·obtain ⟨fa, ca, fp, cp, ft, ct, k1, k2, k3, k4, k5⟩ := HROW.out.at_ m (HPL.out ▸ hlt'')
            have kk1 := below_cells (HA.out ▸ HB.out) _ _ k1
            have kk2 := below_cells (HA.out ▸ HB.out) _ _ k2
            have kk3 := below_cells (HA.out ▸ HB.out) _ _ k3
            have kk4 := below_cells (HA.out ▸ HB.out) _ _ k4
            have g3 := below_cells (HA.out ▸ HB.out) _ _ HG3.out
            rw [← HNC.out] at g3
            obtain ⟨mk, hmk⟩ : ∃ mk, mk = ((table.getD x.f0.toNat []).getD m .i).mask := ⟨_, rfl⟩
            rw [← hmk] at kk1
            have HI := Lib.hid k5
            clear k1 k2 k3 k4 k5 hmk
            have ha := alloc_new wr (.cells #[.int .i64 mk, .func fa #[] ca, .func fp #[] cp, .func ft #[] ct] 208)
            have hbl := below1 wr (.cells #[.int .i64 mk, .func fa #[] ca, .func fp #[] cp, .func ft #[] ct] 208)
            go_upto_region 22 with (fail)
            generalize World.alloc _ _ = W3 at ha hbl ⊢
            have hb3 : Below a w1 W3 := HB.out.trans (hbl.mono (Nat.le_trans (Nat.le_of_eq HA.out.symm) HB.out.size))
            have hw3 : AskerAt W3 a (.int .i64 G) (.slice A fs.length c) (.slice (some ⟨tg, 0, none⟩) 18 tc) l' := (hbl.block a (blk_lt HW.out)).trans HW.out
            have q1 := blk_cell ha 1
            simp only [List.getElem?_toArray, List.getElem?_cons_succ, List.getElem?_cons_zero] at q1
            have g3' := below_cells hbl _ _ g3
            have bc := below_cells (w := w1) (w1 := W3.drew) (HA.out ▸ pw_below_drewN hb3 1)
            have hask := asks_any a (ad.add (j * 4)) (cd.add (k * 7)) G A c fs f (.slice (some ⟨tg, 0, none⟩) 18 tc) l' x A5 c5 A6 c6 nc W3.drew ((table.getD x.f0.toNat []).getD m .i) (.func fa #[] ca) (HI.out.of bc) hw3 (Kd.C_below HC.out (HA.out ▸ pw_below_drewN hb3 1)) (bc _ _ HG1.out) (bc _ _ HG2.out) (HXI.out.of (fun _ _ h => bc _ _ h) (fun _ h => bc _ _ h)) (Kd.C_below H5.out (HA.out ▸ pw_below_drewN hb3 1)) (Kd.C_below H6.out (HA.out ▸ pw_below_drewN hb3 1)) HXM.out.1 HXM.out.2 (fun hp => parts_call (by have := HO.out; omega) (HPL.out ▸ hlt'') HR3.out hp)
            generalize wr.heap.size = bx at q1 ⊢
            have HASK := Lib.hid hask
            have HB3 := Lib.hid hb3
            have HW3 := Lib.hid hw3
            clear hask hb3 hw3 hbl ha bc g3 kk1 kk2 kk3 kk4 HB HW
            rcases HASK.out with ⟨cc, hv, hcall⟩ | ⟨hv, hcall⟩ | ⟨cc0, cc1, cc2, hv, hcall⟩ | ⟨cc0, cc1, hv, hcall⟩
            ·injection hv with hv1 hv0 hv2
             clear hv0
             subst hv1 hv2
             have HCALL := Lib.hid hcall
             clear hcall HASK HI
             go_wp2_with fail
             refine wp_region_still_tail 10 (by kernel_rfl) (by kernel_rfl) ?_
             change wpStill _ _ W3.drew (fun a' => wpList _ _ _ _ a' W3.drew) _ _
             simp only [List.take_succ_cons, List.take_zero, List.drop_succ_cons, List.drop_zero]
             repeat still_step
             refine wpStill_nil ?_
             go_wp2_with fail
             refine HCALL.out.mono ?_
             rintro e w4 ⟨he, hd⟩
             have HB5 := Lib.hid (show Below a w1 w4 from (by obtain ⟨n, rfl⟩ := hd.out; exact pw_below_drewN (below_drew HB3.out) n))
             have HW5 := Lib.hid (show AskerAt w4 a (.int .i64 G) (.slice A fs.length c) (.slice (some ⟨tg, 0, none⟩) 18 tc) l' from (by obtain ⟨n, rfl⟩ := hd.out; exact HW3.out))
             clear hd
             cases hq : askQ G fs f x nc ((table.getD x.f0.toNat []).getD m .i) with
             | error err =>
              rw [hq] at he
              subst he
              have HQ := Lib.hid (HL0.out.trans (codes_err hlt HR.out HFJ.out (HNC.out ▸ hlt') HR2.out (instr_err HOP.out (show partsQ G fs f (f.f3.getD k zI) f.f3.length = .error err by rw [partsQ, ← HXK.out, ← HNC.out]; exact runTo_err HR3.out hq (HPL.out ▸ hlt'')))))
              have kb2 : w4.heap[b2]? = _ := (HB5.out.block _ hlt2).trans F2.out
              have e2' := blk_cell kb2 0
              have z2' := blk_frozen kb2 0
              unfold ends thrown
              dsimp only
              refine leaves_cons (f := 140) (args := #[.pointer (some ⟨b2, 0, none⟩)]) (by simp) (by simp [go_sem]) ?_
              refine (catch_thrown ⟨b2, 0, none⟩ err 0 [] _ e2' z2').mono ?_
              rintro e u' w'' ⟨rfl, rfl, rfl⟩
              have hv := door_cell kb2 err (.cells #[.int .i64 err, .int .i64 0] 193)
              simp [Leaves, settle, results, Tryz.results107, go_sem, hv]
              exact ⟨HQ.out.symm, door_below (H1.out ▸ HB1.out.trans (HB5.out.mono (Nat.le_of_lt hlt1))) (H1.out ▸ H2.out) _ _⟩
             | ok u =>
              rw [hq] at he
              subst he
              have HS := Lib.hid ((runTo_succ (step := fun _ j => askQ G fs f x nc ((table.getD x.f0.toNat []).getD j .i)) HR3.out).trans hq)
              clear hq
              unfold ends
              dsimp only
              go_wp2_with fail
              go_roundw
              case rel => exact ⟨m + 1, by omega, by go_num, HS.out, HW5.out, HB5.out⟩
              case measure => simp [intOf]; omega
            ·injection hv with hv1 hv0 hv2
             clear hv0
             subst hv1 hv2
             have HCALL := Lib.hid hcall
             clear hcall HASK HI
             go_wp2_with fail
             refine wp_region_still_tail 10 (by kernel_rfl) (by kernel_rfl) ?_
             change wpStill _ _ W3.drew (fun a' => wpList _ _ _ _ a' W3.drew) _ _
             simp only [List.take_succ_cons, List.take_zero, List.drop_succ_cons, List.drop_zero]
             repeat still_step
             refine wpStill_nil ?_
             go_wp2_with fail
             refine HCALL.out.mono ?_
             rintro e w4 ⟨he, hd⟩
             have HB5 := Lib.hid (show Below a w1 w4 from (by obtain ⟨n, rfl⟩ := hd.out; exact pw_below_drewN (below_drew HB3.out) n))
             have HW5 := Lib.hid (show AskerAt w4 a (.int .i64 G) (.slice A fs.length c) (.slice (some ⟨tg, 0, none⟩) 18 tc) l' from (by obtain ⟨n, rfl⟩ := hd.out; exact HW3.out))
             clear hd
             cases hq : askQ G fs f x nc ((table.getD x.f0.toNat []).getD m .i) with
             | error err =>
              rw [hq] at he
              subst he
              have HQ := Lib.hid (HL0.out.trans (codes_err hlt HR.out HFJ.out (HNC.out ▸ hlt') HR2.out (instr_err HOP.out (show partsQ G fs f (f.f3.getD k zI) f.f3.length = .error err by rw [partsQ, ← HXK.out, ← HNC.out]; exact runTo_err HR3.out hq (HPL.out ▸ hlt'')))))
              have kb2 : w4.heap[b2]? = _ := (HB5.out.block _ hlt2).trans F2.out
              have e2' := blk_cell kb2 0
              have z2' := blk_frozen kb2 0
              unfold ends thrown
              dsimp only
              refine leaves_cons (f := 140) (args := #[.pointer (some ⟨b2, 0, none⟩)]) (by simp) (by simp [go_sem]) ?_
              refine (catch_thrown ⟨b2, 0, none⟩ err 0 [] _ e2' z2').mono ?_
              rintro e u' w'' ⟨rfl, rfl, rfl⟩
              have hv := door_cell kb2 err (.cells #[.int .i64 err, .int .i64 0] 193)
              simp [Leaves, settle, results, Tryz.results107, go_sem, hv]
              exact ⟨HQ.out.symm, door_below (H1.out ▸ HB1.out.trans (HB5.out.mono (Nat.le_of_lt hlt1))) (H1.out ▸ H2.out) _ _⟩
             | ok u =>
              rw [hq] at he
              subst he
              have HS := Lib.hid ((runTo_succ (step := fun _ j => askQ G fs f x nc ((table.getD x.f0.toNat []).getD j .i)) HR3.out).trans hq)
              clear hq
              unfold ends
              dsimp only
              go_wp2_with fail
              go_roundw
              case rel => exact ⟨m + 1, by omega, by go_num, HS.out, HW5.out, HB5.out⟩
              case measure => simp [intOf]; omega
            ·injection hv with hv1 hv0 hv2
             clear hv0
             subst hv1 hv2
             have HCALL := Lib.hid hcall
             clear hcall HASK HI
             go_wp2_with fail
             refine wp_region_still_tail 10 (by kernel_rfl) (by kernel_rfl) ?_
             change wpStill _ _ W3.drew (fun a' => wpList _ _ _ _ a' W3.drew) _ _
             simp only [List.take_succ_cons, List.take_zero, List.drop_succ_cons, List.drop_zero]
             repeat still_step
             refine wpStill_nil ?_
             go_wp2_with fail
             refine HCALL.out.mono ?_
             rintro e w4 ⟨he, hd⟩
             have HB5 := Lib.hid (show Below a w1 w4 from (by obtain ⟨n, rfl⟩ := hd.out; exact pw_below_drewN (below_drew HB3.out) n))
             have HW5 := Lib.hid (show AskerAt w4 a (.int .i64 G) (.slice A fs.length c) (.slice (some ⟨tg, 0, none⟩) 18 tc) l' from (by obtain ⟨n, rfl⟩ := hd.out; exact HW3.out))
             clear hd
             cases hq : askQ G fs f x nc ((table.getD x.f0.toNat []).getD m .i) with
             | error err =>
              rw [hq] at he
              subst he
              have HQ := Lib.hid (HL0.out.trans (codes_err hlt HR.out HFJ.out (HNC.out ▸ hlt') HR2.out (instr_err HOP.out (show partsQ G fs f (f.f3.getD k zI) f.f3.length = .error err by rw [partsQ, ← HXK.out, ← HNC.out]; exact runTo_err HR3.out hq (HPL.out ▸ hlt'')))))
              have kb2 : w4.heap[b2]? = _ := (HB5.out.block _ hlt2).trans F2.out
              have e2' := blk_cell kb2 0
              have z2' := blk_frozen kb2 0
              unfold ends thrown
              dsimp only
              refine leaves_cons (f := 140) (args := #[.pointer (some ⟨b2, 0, none⟩)]) (by simp) (by simp [go_sem]) ?_
              refine (catch_thrown ⟨b2, 0, none⟩ err 0 [] _ e2' z2').mono ?_
              rintro e u' w'' ⟨rfl, rfl, rfl⟩
              have hv := door_cell kb2 err (.cells #[.int .i64 err, .int .i64 0] 193)
              simp [Leaves, settle, results, Tryz.results107, go_sem, hv]
              exact ⟨HQ.out.symm, door_below (H1.out ▸ HB1.out.trans (HB5.out.mono (Nat.le_of_lt hlt1))) (H1.out ▸ H2.out) _ _⟩
             | ok u =>
              rw [hq] at he
              subst he
              have HS := Lib.hid ((runTo_succ (step := fun _ j => askQ G fs f x nc ((table.getD x.f0.toNat []).getD j .i)) HR3.out).trans hq)
              clear hq
              unfold ends
              dsimp only
              go_wp2_with fail
              go_roundw
              case rel => exact ⟨m + 1, by omega, by go_num, HS.out, HW5.out, HB5.out⟩
              case measure => simp [intOf]; omega
            ·injection hv with hv1 hv0 hv2
             clear hv0
             subst hv1 hv2
             have HCALL := Lib.hid hcall
             clear hcall HASK HI
             go_wp2_with fail
             refine wp_region_still_tail 10 (by kernel_rfl) (by kernel_rfl) ?_
             change wpStill _ _ W3.drew (fun a' => wpList _ _ _ _ a' W3.drew) _ _
             simp only [List.take_succ_cons, List.take_zero, List.drop_succ_cons, List.drop_zero]
             repeat still_step
             refine wpStill_nil ?_
             go_wp2_with fail
             refine HCALL.out.mono ?_
             rintro e w4 ⟨he, hd⟩
             have HB5 := Lib.hid (show Below a w1 w4 from (by obtain ⟨n, rfl⟩ := hd.out; exact pw_below_drewN (below_drew HB3.out) n))
             have HW5 := Lib.hid (show AskerAt w4 a (.int .i64 G) (.slice A fs.length c) (.slice (some ⟨tg, 0, none⟩) 18 tc) l' from (by obtain ⟨n, rfl⟩ := hd.out; exact HW3.out))
             clear hd
             cases hq : askQ G fs f x nc ((table.getD x.f0.toNat []).getD m .i) with
             | error err =>
              rw [hq] at he
              subst he
              have HQ := Lib.hid (HL0.out.trans (codes_err hlt HR.out HFJ.out (HNC.out ▸ hlt') HR2.out (instr_err HOP.out (show partsQ G fs f (f.f3.getD k zI) f.f3.length = .error err by rw [partsQ, ← HXK.out, ← HNC.out]; exact runTo_err HR3.out hq (HPL.out ▸ hlt'')))))
              have kb2 : w4.heap[b2]? = _ := (HB5.out.block _ hlt2).trans F2.out
              have e2' := blk_cell kb2 0
              have z2' := blk_frozen kb2 0
              unfold ends thrown
              dsimp only
              refine leaves_cons (f := 140) (args := #[.pointer (some ⟨b2, 0, none⟩)]) (by simp) (by simp [go_sem]) ?_
              refine (catch_thrown ⟨b2, 0, none⟩ err 0 [] _ e2' z2').mono ?_
              rintro e u' w'' ⟨rfl, rfl, rfl⟩
              have hv := door_cell kb2 err (.cells #[.int .i64 err, .int .i64 0] 193)
              simp [Leaves, settle, results, Tryz.results107, go_sem, hv]
              exact ⟨HQ.out.symm, door_below (H1.out ▸ HB1.out.trans (HB5.out.mono (Nat.le_of_lt hlt1))) (H1.out ▸ H2.out) _ _⟩
             | ok u =>
              rw [hq] at he
              subst he
              have HS := Lib.hid ((runTo_succ (step := fun _ j => askQ G fs f x nc ((table.getD x.f0.toNat []).getD j .i)) HR3.out).trans hq)
              clear hq
              unfold ends
              dsimp only
              go_wp2_with fail
              go_roundw
              case rel => exact ⟨m + 1, by omega, by go_num, HS.out, HW5.out, HB5.out⟩
              case measure => simp [intOf]; omega
           ·obtain rfl : m = pl := by omega
            have HPO := Lib.hid (show instrQ G fs f l k = .ok l' from instr_ok HOP.out (show partsQ G fs f (f.f3.getD k zI) f.f3.length = .ok () by rw [partsQ, ← HXK.out, ← HNC.out, ← HPL.out]; exact HR3.out))
            have HS := Lib.hid ((runTo_succ HR2.out).trans HPO.out)
            go_wp2_with fail
            go_roundw
            case rel => exact ⟨k + 1, l', by omega, by go_num, hr0, hr1, HS.out, HW.out, HB.out⟩
            case measure => simp [intOf]; omega
        ·obtain rfl : k = nc := by omega
         have HPO := Lib.hid (show codeQ G fs l1 j = .ok l by rw [codeQ, ← HFJ.out, ← HNC.out]; exact HR2.out)
         have HS := Lib.hid ((runTo_succ HR.out).trans HPO.out)
         clear e3
         go_wp2_with fail
         go_roundw
         case rel => exact ⟨j + 1, l, by omega, by go_num, hl0, hl1, HS.out, HW.out, HB.out⟩
         case measure => simp [intOf]; omega
      ·obtain rfl : j = fs.length := by omega
       have HQ := Lib.hid (HL0.out.trans (show chkOf (codesQ G fs l0) = 0 by rw [show codesQ G fs l0 = .ok l from HR.out]; rfl))
       have kb2 : wr.heap[b2]? = _ := (HB.out.block _ hlt2).trans F2.out
       have e2' := blk_cell kb2 0
       have z2' := blk_frozen kb2 0
       simp only [List.getElem?_toArray, List.getElem?_cons_zero] at e2'
       go_wp2_with fail
       have hbe : Below w.heap.size w wr := H1.out ▸ HB1.out.trans (HB.out.mono (Nat.le_of_lt hlt1))
       have hv := below_cells (below1 (wr.setCell ⟨b2, 0, none⟩ (.int .i64 0)) (.cells #[.int .i64 0, .int .i64 0] 193)) _ _ (blk_cell (blk_put kb2 0 (.int .i64 0) rfl) 0)
       refine leaves_cons (f := 140) (args := #[.pointer (some ⟨b2, 0, none⟩)]) (by simp) (by simp [go_sem]) ?_
       refine (catch_none ⟨b2, 0, none⟩ _).mono ?_
       rintro e u' w'' ⟨rfl, rfl, rfl⟩
       simp only [List.getElem?_toArray, List.getElem?_cons_zero, Array.setIfInBounds, List.set_cons_zero] at hv
       simp [Leaves, settle, results, Tryz.results107, go_sem, hv]
       exact ⟨HQ.out.symm, (hbe.setCell (p := ⟨b2, 0, none⟩) (H1.out ▸ H2.out) _).alloc (Nat.le_trans hbe.size (by simp [World.setCell])) _⟩
  ·have HQ := Lib.hid (show chk G fs = 20 by rw [chk, chkQ, if_pos hG, if_neg hF])
   have hf := funcs_any a fs.length W2 h4
   rw [decide_eq_false hF, asked_no] at hf
   have HF := Lib.hid hf
   clear hf hF hG
   go_wp2_with fail
   refine HG.out.mono ?_
   rintro e w2 ⟨rfl, rfl⟩
   go_wp2_with fail
   refine HF.out.mono ?_
   rintro e w2 ⟨rfl, rfl⟩
   unfold thrown
   dsimp only
   refine leaves_cons (f := 140) (args := #[.pointer (some ⟨b2, 0, none⟩)]) (by simp) (by simp [go_sem]) ?_
   refine (catch_thrown ⟨b2, 0, none⟩ 20 0 [] _ e2 z2).mono ?_
   rintro e u' w'' ⟨rfl, rfl, rfl⟩
   have hv := door_cell KB2.out 20 (.cells #[.int .i64 20, .int .i64 0] 193)
   simp [Leaves, settle, results, Tryz.results107, go_sem, hv]
   exact ⟨HQ.out.symm, door_below HBW.out (H1.out ▸ H2.out) _ _⟩
 ·have HQ := Lib.hid (show chk G fs = 18 by rw [chk, chkQ, if_neg hG])
  have hg := globals_any a G W2 h4
  rw [decide_eq_false hG, asked_no] at hg
  have HG := Lib.hid hg
  clear hg hG
  go_wp2_with fail
  refine HG.out.mono ?_
  rintro e w2 ⟨rfl, rfl⟩
  unfold thrown
  dsimp only
  refine leaves_cons (f := 140) (args := #[.pointer (some ⟨b2, 0, none⟩)]) (by simp) (by simp [go_sem]) ?_
  refine (catch_thrown ⟨b2, 0, none⟩ 18 0 [] _ e2 z2).mono ?_
  rintro e u' w'' ⟨rfl, rfl, rfl⟩
  have hv := door_cell KB2.out 18 (.cells #[.int .i64 18, .int .i64 0] 193)
  simp [Leaves, settle, results, Tryz.results107, go_sem, hv]
  exact ⟨HQ.out.symm, door_below HBW.out (H1.out ▸ H2.out) _ _⟩
theorem check_any (G : Int) (A : Option Addr) (c : Nat) (fs : List Fun) (w : World) (hC : k66.C w A fs.length fs) (hlen : fs.length ≤ 2147483647) (hcode : ∀ f ∈ fs, f.f3.length ≤ 2147483647 ∧ ∀ x ∈ f.f3, x.f5.length ≤ 2147483647 ∧ x.f6.length ≤ 2147483647) :
  Calls Tryz.prog 62 #[.agg #[.int .i64 G, .slice A fs.length c]] w fun e w' => e = .returned (.int .i64 (chk G fs)) ∧ Below w.heap.size w w' := by
 have hb0 := below1 w (.cells #[.int .i64 G, .slice A fs.length c] 24)
 have HF := Lib.hid (first_any G A c fs _ (Kd.C_below hC hb0) hlen hcode)
 have HB0 := Lib.hid hb0
 clear hC hcode hb0
 go_enter Tryz.func62, Tryz.ntmps62
 go_wp2_with fail
 refine HF.out.mono ?_
 rintro e w1 ⟨rfl, hb⟩
 have HB := Lib.hid hb
 clear hb
 go_wp2_with fail
 go_ret
 exact ⟨rfl, HB0.out.trans (HB.out.mono HB0.out.size)⟩
end Go.Proofs.YtcbcacbbnojdjaaGreatDoor
