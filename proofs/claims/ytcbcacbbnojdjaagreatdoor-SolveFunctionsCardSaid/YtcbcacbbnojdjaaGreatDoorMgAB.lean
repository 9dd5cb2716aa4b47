/-
 Part AB of what the law's proof needs: walks of the program's functions and the plain laws of what they tell. No condition.
-/
import Derived.Test.YtcbcacbbnojdjaaGreatDoorMgAA
import Derived.Deep.RegionHeld3
import Derived.BigQuiet
namespace Go.Proofs.YtcbcacbbnojdjaaGreatDoor
open Go.RowKit Go.Maps Go.Proofs.YtcbcacbbnojdjaaGreatDoorW.PrintWords Go.Proofs.YtcbcacbbnojdjaaGreatDoorW.PrintLast Go.Proofs.YtcbcacbbnojdjaaGreatDoorW.PrintMore Go.Proofs.YtcbcacbbnojdjaaGreatDoor.PSolveFunctions
set_option linter.unusedVariables false
set_option linter.unusedSimpArgs false
theorem getD_snoc {α : Type} (xs : List α) (j : Nat) (z : α) (h : j < xs.length) : xs.take j ++ [xs.getD j z] = xs.take (j + 1) := by
 rw [List.take_add_one, List.getD_eq_getElem?_getD, List.getElem?_eq_getElem h]; rfl
theorem at_rowI {w : World} {A : Option Addr} {n : Nat} {xs : List (List Int)} (h : (Kd.slice 3 (Kd.int .i64)).C w A n xs) (j : Nat) (hj : j < xs.length) : ∃ ad A3 c3, A = some ad ∧ w.cell? (ad.add j) = some (.slice A3 (xs.getD j []).length c3) ∧ (xs.getD j []).length ≤ c3 ∧ (Kd.int .i64).C w A3 (xs.getD j []).length (xs.getD j []) := by
 obtain ⟨hn, _, hc⟩ := h
 obtain ⟨ad, e, hc⟩ := hc (by omega)
 obtain ⟨cs, h1, ⟨A3, c3, h2, h4, h5⟩, h3⟩ := hc j _ (List.getElem?_eq_getElem hj)
 rw [show xs.getD j [] = xs[j] by rw [List.getD_eq_getElem?_getD, List.getElem?_eq_getElem hj]; rfl]
 have h6 := h3 0 (.slice A3 xs[j].length c3) (by rw [h2]; rfl)
 rw [show j * (Kd.slice 3 (Kd.int .i64)).sz + 0 = j from Nat.mul_one j] at h6
 exact ⟨ad, A3, c3, e, h6, h4, h5⟩
set_option maxRecDepth 100000 in
set_option maxHeartbeats 6400000 in
theorem copyLists_any (A : Option Addr) (c : Nat) (xs : List (List Int)) (w : World) (hC : (Kd.slice 3 (Kd.int .i64)).C w A xs.length xs) (hl : xs.length ≤ 2147483647) (hs : ∀ x ∈ xs, x.length ≤ 2147483647) :
  Calls Tryz.prog 106 #[.slice A xs.length c] w fun e w' => ∃ A1 c1, e = .returned (.slice A1 xs.length c1) ∧ (Kd.slice 3 (Kd.int .i64)).R 31 w' w.heap.size (fun _ => True) (.slice A1 xs.length c1) xs ∧ Below w.heap.size w w' := by
 have HC := Lib.hid hC
 have HS := Lib.hid hs
 clear hC hs
 go_enter Tryz.func106, Tryz.ntmps106
 go_upto_region 3 with (fail)
 go_loopw [3, 4] (fun u i wr => ∃ (j : Nat) (A1 : Option Addr) (c1 : Nat), j ≤ xs.length ∧ u = .slice A1 j c1 ∧ i = .int .i64 j ∧ (Kd.slice 3 (Kd.int .i64)).R 31 wr w.heap.size (fun _ => True) (.slice A1 j c1) (xs.take j) ∧ Below w.heap.size w wr) (fun u i _ => xs.length - (intOf i).toNat)
 case atStart => exact ⟨0, none, 0, by omega, rfl, rfl, Kd.R_nil _ _ _ _ _, Below.refl _ _⟩
 case round =>
  obtain ⟨j, A1, c1, hj, rfl, rfl, hu, hB⟩ := hrel
  have HU := Lib.hid hu
  have HB := Lib.hid hB
  clear hu hB
  by_cases hlt : j < xs.length
  ·obtain ⟨ad, A3', c3', hA, x0, hl3, hC3⟩ := at_rowI (Kd.C_below HC.out HB.out) j hlt
   subst hA
   obtain ⟨x, hf⟩ : ∃ x, xs.getD j [] = x := ⟨_, rfl⟩
   rw [hf] at x0 hl3 hC3
   have hxs := HS.out x (hf ▸ getD_memA _ _ _ hlt)
   have HCF := Lib.hid (copyInts_any wr A3' c3' x hC3 hxs)
   have HF := Lib.hid hf
   clear hf hxs hC3 hl3
   have HTL := Lib.hid (show (xs.take j).length = j by rw [List.length_take]; omega)
   go_wp2_with fail
   refine HCF.out.mono ?_
   rintro e w3 ⟨A3, c3, rfl, hr3, hb3⟩
   clear HCF x0
   have HB4 := Lib.hid hb3
   have HM4 := Lib.hid (show (Kd.slice 3 (Kd.int .i64)).M w3 wr.heap.size (fun _ => True) x [.slice A3 x.length c3] from ⟨.slice A3 x.length c3, rfl, hr3⟩)
   clear hb3 hr3
   go_upto_region 6 with (fail)
   obtain ⟨w4, rfl⟩ : ∃ w4, w3 = w4 := ⟨_, rfl⟩
   have hN : w.heap.size ≤ wr.heap.size := HB.out.size
   have HM := Lib.hid ((Kd.slice 3 (Kd.int .i64)).M_lower hN ((Kd.slice 3 (Kd.int .i64)).M_mono (fun k hk => hk.2.1) ((Kd.slice 3 (Kd.int .i64)).M_bound HM4.out)))
   have HOK := Lib.hid (fun (k : Nat) (hk : wr.heap.size ≤ k) => (⟨trivial, fun e => by have := Kd.R_lt HU.out k e.symm; omega⟩ : True ∧ some k ≠ (Value.slice A1 j c1).ownBlock))
   have HO := Lib.hid (Kd.R_below HU.out HB4.out)
   have HB5 := Lib.hid (HB.out.trans (HB4.out.mono hN))
   have hl5 : ((xs.take j).length + 1) * 24 ≤ 140737488355328 := by rw [HTL.out]; omega
   clear hN
   go_wp2_with (first | (at_builtin; refine Kd.R_append (Kd.slice 3 (Kd.int .i64)) (w0 := w) (W := w3) w.heap.size rfl (.tmp 17) (.tmp 19) 32 31 (.slice none 0 0) 24 rfl Tryz.underlying32 info31 rfl (by decide) (by decide) (.slice A1 j c1) (xs.take j) x [.slice A3 x.length c3] (fun _ => True) (fun k => wr.heap.size ≤ k) rfl rfl HM.out HOK.out (fun _ _ => trivial) HO.out HB5.out HB5.out.size hl5 ?_; intro u1 w8 hr8 hb8 hg8 hat8; obtain ⟨A2, c2, hu2⟩ := Kd.R_slice hr8; rw [List.length_append, HTL.out, List.length_singleton] at hu2; subst hu2; have HU8 := Lib.hid hr8; have HB8 := Lib.hid hb8; clear hr8 hb8 hg8 hat8))
   go_roundw
   case rel => exact ⟨j + 1, A2, c2, by omega, rfl, by go_num, by rw [← getD_snoc xs j [] hlt, HF.out]; exact HU8.out, HB8.out⟩
   case measure => simp [intOf]; omega
  ·obtain rfl : j = xs.length := by omega
   rw [List.take_length] at HU
   go_wp2_with fail
   go_ret
   exact ⟨A1, c1, rfl, HU.out, HB.out⟩
theorem put_block {P : Program} {ops : Array Oper} {o : Oper} {rest : List Oper} {a : Act} {Q : Exit → Act → World → Prop} {w : World} {b : Nat} {e : TypeId} {cur : Array Value} (t : TypeId) (p x : Operand) (u : Value) (seg : List Value)
  (hgd : o.guard = none) (hN : o.dst = none) (ho : o.op = .store t p x) (hp : (P.info? t).map (·.size) = some seg.length) (haddr : a.eval p = .pointer (some ⟨b, 0, none⟩)) (hx : a.eval x = u) (hu : u.cells.toList = seg) (h1 : ∀ q ∈ seg, q.oneCell' = true)
  (hh : w.heap[b]? = some (.cells cur e (0, 0))) (hsz : cur.size = seg.length)
  (h : ∀ w', w'.heap[b]? = some (.cells seg.toArray e (0, 0)) → (∀ k, k ≠ b → w'.heap[k]? = w.heap[k]?) → (∀ (n : Nat) (wa : World), Below n wa w → n ≤ b → Below n wa w') → wpList P ops Q rest a w') : wpList P ops Q (o :: rest) a w := by
 have hrun := run_store_run (P := P) (o := 0) t u seg hh hu hp (by omega) h1
 refine wpList_plain hgd fun K hK => ?_
 unfold Oper.wp execOp
 simp only [ho, haddr, hx, Sem.run_bind, Sem.run_pure, Result.andThen_ok, hrun]
 show K (a.put o.dst undef) _
 rw [hN]
 obtain ⟨cur', h3, h4, h5⟩ := setCells_row seg 0 w cur hh (by omega)
 obtain ⟨s1, s2, s3, s4⟩ := setCells_same b seg 0 w
 rw [List.take_zero, List.nil_append, Nat.zero_add, List.drop_of_length_le (by simp; omega), List.append_nil] at h5
 refine hK _ _ (h _ (by rw [h3, ← h5]) (fun k hk => setCells_far _ _ k hk) (fun n wa hb hn => ?_))
 exact hb.trans ⟨s1, s2, s3, by rw [s4]; exact Nat.le_refl _, fun k hk => setCells_far _ _ k (by omega)⟩
theorem size_fun : (Tryz.prog.info? 66).map (·.size) = some 4 := by kernel_rfl
theorem R_apart {α : Type} {d : Kd α} {e n b : Nat} {w w' : World} {ok : Nat → Prop} {v : Value} {xs : List α} (h : d.R e w n ok v xs) (hb : b < n) (hf : ∀ k, k ≠ b → w'.heap[k]? = w.heap[k]?) : d.R e w' n ok v xs :=
 Kd.R_mono (Kd.R_move (Kd.R_bound h) (fun k hk => hf k (by have := hk.2.1; omega))) (fun _ hk => hk.1)
set_option maxRecDepth 100000 in
set_option maxHeartbeats 3200000 in
theorem copyInstr_any (x : Ins) (A3 : Option Addr) (c3 : Nat) (A4 : Option Addr) (c4 : Nat) (w : World) (hC3 : (Kd.int .i64).C w A3 x.f5.length x.f5) (hC4 : (Kd.int .i64).C w A4 x.f6.length x.f6) (hx : InsB x) :
  Calls Tryz.prog 169 #[.agg #[.int .i64 x.f0, .int .i64 x.f1, .int .i64 x.f2, .int .i64 x.f3, .int .i64 x.f4, .slice A3 x.f5.length c3, .slice A4 x.f6.length c4]] w fun e w' => ∃ B0 d0 B1 d1, e = .returned (.agg #[.int .i64 x.f0, .int .i64 x.f1, .int .i64 x.f2, .int .i64 x.f3, .int .i64 x.f4, .slice B0 x.f5.length d0, .slice B1 x.f6.length d1]) ∧ (Kd.int .i64).R 3 w' w.heap.size (fun _ => True) (.slice B0 x.f5.length d0) x.f5 ∧ (Kd.int .i64).R 3 w' w.heap.size (fun _ => True) (.slice B1 x.f6.length d1) x.f6 ∧ Below w.heap.size w w' := by
 have HC3 := Lib.hid hC3
 have HC4 := Lib.hid hC4
 clear hC3 hC4
 go_enter Tryz.func169, Tryz.ntmps169
 go_upto_region 1 with (fail)
 have hb2 := two_allocs w (.cells #[.int .i64 x.f0, .int .i64 x.f1, .int .i64 x.f2, .int .i64 x.f3, .int .i64 x.f4, .slice A3 x.f5.length c3, .slice A4 x.f6.length c4] 79) (.cells #[.int .i64 0, .int .i64 0, .int .i64 0, .int .i64 0, .int .i64 0, .slice none 0 0, .slice none 0 0] 79)
 have f1 := alloc_first w #[.int .i64 x.f0, .int .i64 x.f1, .int .i64 x.f2, .int .i64 x.f3, .int .i64 x.f4, .slice A3 x.f5.length c3, .slice A4 x.f6.length c4] 79 (.cells #[.int .i64 0, .int .i64 0, .int .i64 0, .int .i64 0, .int .i64 0, .slice none 0 0, .slice none 0 0] 79)
 have f2 := alloc_second w (.cells #[.int .i64 x.f0, .int .i64 x.f1, .int .i64 x.f2, .int .i64 x.f3, .int .i64 x.f4, .slice A3 x.f5.length c3, .slice A4 x.f6.length c4] 79) #[.int .i64 0, .int .i64 0, .int .i64 0, .int .i64 0, .int .i64 0, .slice none 0 0, .slice none 0 0] 79
 obtain ⟨N, hN⟩ : ∃ N, w.heap.size = N := ⟨_, rfl⟩
 have HN := Lib.hid hN
 rw [hN] at hb2 f1 f2 ⊢
 generalize World.alloc _ _ = W2 at hb2 f1 f2 ⊢
 have hz := blk_lt f2
 have HC := Lib.hid (copyInts_any W2 A3 c3 x.f5 (Kd.C_below HC3.out (hN ▸ hb2)) (by have := hx.1; omega))
 have p5 := blk_cell f1 5
 simp only [List.getElem?_toArray, List.getElem?_cons_succ, List.getElem?_cons_zero] at p5
 have HB2 := Lib.hid hb2
 have F1 := Lib.hid f1
 have F2 := Lib.hid f2
 clear hb2 f1 f2 hN
 go_wp2_with fail
 refine HC.out.mono ?_
 rintro e w3 ⟨B0, d0, rfl, hr3, hb3⟩
 have g1 := (hb3.block _ (blk_lt F1.out)).trans F1.out
 have g2 := (hb3.block _ (blk_lt F2.out)).trans F2.out
 clear p5
 have p5 := blk_cell g1 5
 have z5 := blk_frozen g1 5
 simp only [List.getElem?_toArray, List.getElem?_cons_succ, List.getElem?_cons_zero] at p5
 have k1 := blk_put g1 5 (.slice B0 x.f5.length d0) rfl
 have k2 := blk_far g2 (p := ⟨N, 5, none⟩) (by show N + 1 ≠ N; omega) (.slice B0 x.f5.length d0)
 have hr4 := R_apart (b := N) (w' := w3.setCell ⟨N, 5, none⟩ (.slice B0 x.f5.length d0)) hr3 (by omega) (fun k hk => Below.heap_setCell w3 ⟨N, 5, none⟩ _ k hk)
 have hb4 := (HB2.out.trans (hb3.mono (by omega))).setCell (p := ⟨N, 5, none⟩) (Nat.le_refl N) (.slice B0 x.f5.length d0)
 have HB4 := Lib.hid hb4
 have HR4 := Lib.hid hr4
 have K1 := Lib.hid k1
 have K2 := Lib.hid k2
 have HZ4 := Lib.hid (show N + 1 < (w3.setCell ⟨N, 5, none⟩ (.slice B0 x.f5.length d0)).heap.size from blk_lt k2)
 clear HC HB2 F1 F2 hr3 hb3 g1 g2 k1 k2 hr4 hb4
 go_upto_region 2 with (fail)
 clear p5 z5
 generalize World.setCell _ _ _ = w4 at HB4 HR4 K1 K2 HZ4 ⊢
 simp only [List.setIfInBounds_toArray, List.set_cons_zero, List.set_cons_succ] at K1
 have p6 := blk_cell K1.out 6
 simp only [List.getElem?_toArray, List.getElem?_cons_succ, List.getElem?_cons_zero] at p6
 have HC := Lib.hid (copyInts_any w4 A4 c4 x.f6 (Kd.C_below HC4.out (HN.out ▸ HB4.out)) (by have := hx.2; omega))
 go_wp2_with fail
 refine HC.out.mono ?_
 rintro e w5 ⟨B1, d1, rfl, hr5, hb5⟩
 have g1 := (hb5.block _ (blk_lt K1.out)).trans K1.out
 have g2 := (hb5.block _ (blk_lt K2.out)).trans K2.out
 clear p6
 have p6 := blk_cell g1 6
 have z6 := blk_frozen g1 6
 simp only [List.getElem?_toArray, List.getElem?_cons_succ, List.getElem?_cons_zero] at p6
 have k1 := blk_put g1 6 (.slice B1 x.f6.length d1) rfl
 simp only [List.setIfInBounds_toArray, List.set_cons_zero, List.set_cons_succ] at k1
 have k2 := blk_far g2 (p := ⟨N, 6, none⟩) (by show N + 1 ≠ N; omega) (.slice B1 x.f6.length d1)
 have hf := fun k (hk : k ≠ N) => Below.heap_setCell w5 ⟨N, 6, none⟩ (.slice B1 x.f6.length d1) k hk
 have hz4 := HZ4.out
 have HR5 := Lib.hid (R_apart (b := N) (Kd.R_below HR4.out hb5) (by omega) hf)
 have HR6 := Lib.hid (R_apart (b := N) hr5 (by omega) hf)
 have HB6 := Lib.hid ((HB4.out.trans (hb5.mono (by omega))).setCell (p := ⟨N, 6, none⟩) (Nat.le_refl N) (.slice B1 x.f6.length d1))
 have K5 := Lib.hid k1
 have K6 := Lib.hid k2
 clear HC HR4 HB4 K1 K2 hr5 hb5 g1 g2 k1 k2 hf
 go_upto_region 3 with (fail)
 clear p6 z6
 generalize World.setCell _ _ _ = w6 at HR5 HR6 HB6 K5 K6 ⊢
 have a0 := blk_cell K5.out 0
 have a1 := blk_cell K5.out 1
 have a2 := blk_cell K5.out 2
 have a3 := blk_cell K5.out 3
 have a4 := blk_cell K5.out 4
 have a5 := blk_cell K5.out 5
 have a6 := blk_cell K5.out 6
 simp only [List.getElem?_toArray, List.getElem?_cons_succ, List.getElem?_cons_zero] at a0 a1 a2 a3 a4 a5 a6
 go_wp2_with (refine put_block 79 (.tmp 2) (.tmp 11) _ [.int .i64 x.f0, .int .i64 x.f1, .int .i64 x.f2, .int .i64 x.f3, .int .i64 x.f4, .slice B0 x.f5.length d0, .slice B1 x.f6.length d1] rfl rfl rfl size_ins rfl rfl rfl (by intro q hq; simp only [List.mem_cons, List.not_mem_nil, or_false] at hq; rcases hq with rfl | rfl | rfl | rfl | rfl | rfl | rfl <;> rfl) K6.out rfl ?_; intro w7 h7 hf7 hb7; have H7 := Lib.hid h7; have HF7 := Lib.hid hf7; have HB7 := Lib.hid hb7; clear h7 hf7 hb7 a0 a1 a2 a3 a4 a5 a6)
 have a0 := blk_cell H7.out 0
 have a1 := blk_cell H7.out 1
 have a2 := blk_cell H7.out 2
 have a3 := blk_cell H7.out 3
 have a4 := blk_cell H7.out 4
 have a5 := blk_cell H7.out 5
 have a6 := blk_cell H7.out 6
 simp only [List.getElem?_toArray, List.getElem?_cons_succ, List.getElem?_cons_zero] at a0 a1 a2 a3 a4 a5 a6
 refine bodyPost_ret (v := .agg #[.int .i64 x.f0, .int .i64 x.f1, .int .i64 x.f2, .int .i64 x.f3, .int .i64 x.f4, .slice B0 x.f5.length d0, .slice B1 x.f6.length d1]) ?_ rfl ⟨B0, d0, B1, d1, rfl, by rw [HN.out]; exact Kd.R_lower (R_apart HR5.out (by omega) HF7.out) (by omega), by rw [HN.out]; exact Kd.R_lower (R_apart HR6.out (by omega) HF7.out) (by omega), by rw [HN.out]; exact HB7.out _ _ HB6.out (by omega)⟩
 simp [results, Tryz.f169, go_sem, a0, a1, a2, a3, a4, a5, a6]
set_option maxRecDepth 100000 in
set_option maxHeartbeats 6400000 in
theorem copyCode_any (A : Option Addr) (c : Nat) (xs : List (Ins)) (w : World) (hC : (k79).C w A xs.length xs) (hl : xs.length ≤ 2147483647) (hs : ∀ x ∈ xs, InsB x) :
  Calls Tryz.prog 139 #[.slice A xs.length c] w fun e w' => ∃ A1 c1, e = .returned (.slice A1 xs.length c1) ∧ (k79).R 79 w' w.heap.size (fun _ => True) (.slice A1 xs.length c1) xs ∧ Below w.heap.size w w' := by
 have HC := Lib.hid hC
 have HS := Lib.hid hs
 clear hC hs
 go_enter Tryz.func139, Tryz.ntmps139
 go_upto_region 3 with (fail)
 go_loopw [3, 4] (fun u i wr => ∃ (j : Nat) (A1 : Option Addr) (c1 : Nat), j ≤ xs.length ∧ u = .slice A1 j c1 ∧ i = .int .i64 j ∧ (k79).R 79 wr w.heap.size (fun _ => True) (.slice A1 j c1) (xs.take j) ∧ Below w.heap.size w wr) (fun u i _ => xs.length - (intOf i).toNat)
 case atStart => exact ⟨0, none, 0, by omega, rfl, rfl, Kd.R_nil _ _ _ _ _, Below.refl _ _⟩
 case round =>
  obtain ⟨j, A1, c1, hj, rfl, rfl, hu, hB⟩ := hrel
  have HU := Lib.hid hu
  have HB := Lib.hid hB
  clear hu hB
  by_cases hlt : j < xs.length
  ·obtain ⟨ad, A3, c3, A4, c4, rfl, q0, q1, q2, q3, q4, q5, q6, hc3, hC3, hc4, hC4⟩ := at_T79 (Kd.C_below HC.out HB.out) (j : Int) (by omega) (by omega)
   obtain ⟨x, hf⟩ : ∃ x, xs.getD j z79 = x := ⟨_, rfl⟩
   have hf' : rd_T79 xs (j : Int) = x := hf
   rw [hf', Int.toNat_natCast] at q0 q1 q2 q3 q4 q5 q6
   rw [hf'] at hC3 hC4
   clear hf' hc3 hc4
   have hxs := HS.out x (hf ▸ getD_memA _ _ _ hlt)
   have HCF := Lib.hid (copyInstr_any x A3 c3 A4 c4 wr hC3 hC4 hxs)
   have HF := Lib.hid hf
   clear hf hxs hC3 hC4
   have HTL := Lib.hid (show (xs.take j).length = j by rw [List.length_take]; omega)
   go_wp2_with fail
   refine HCF.out.mono ?_
   rintro e w3 ⟨B0, d0, B1, d1, rfl, hr3, hr4, hb3⟩
   clear HCF q0 q1 q2 q3 q4 q5 q6
   have hn4 := alloc_new w3 (.cells #[.int .i64 x.f0, .int .i64 x.f1, .int .i64 x.f2, .int .i64 x.f3, .int .i64 x.f4, .slice B0 x.f5.length d0, .slice B1 x.f6.length d1] 79)
   have HB4 := Lib.hid (hb3.trans ((below1 w3 (.cells #[.int .i64 x.f0, .int .i64 x.f1, .int .i64 x.f2, .int .i64 x.f3, .int .i64 x.f4, .slice B0 x.f5.length d0, .slice B1 x.f6.length d1] 79)).mono hb3.size))
   have HM4 := Lib.hid (Kd.M_below (d := k79) (x := x) (cs := [.int .i64 x.f0, .int .i64 x.f1, .int .i64 x.f2, .int .i64 x.f3, .int .i64 x.f4, .slice B0 x.f5.length d0, .slice B1 x.f6.length d1]) (base := wr.heap.size) (ok := fun _ => True) (k79_mkM w3 wr.heap.size (fun _ => True) x hr3 hr4) (below1 w3 (.cells #[.int .i64 x.f0, .int .i64 x.f1, .int .i64 x.f2, .int .i64 x.f3, .int .i64 x.f4, .slice B0 x.f5.length d0, .slice B1 x.f6.length d1] 79)))
   clear hr3 hr4 hb3
   obtain ⟨m, hm⟩ : ∃ m, w3.heap.size = m := ⟨_, rfl⟩
   go_upto_region 6 with (fail)
   rw [hm] at hn4
   clear hm
   generalize World.alloc _ _ = w4 at hn4 HM4 HB4 ⊢
   have g0 := blk_cell hn4 0
   have g1 := blk_cell hn4 1
   have g2 := blk_cell hn4 2
   have g3 := blk_cell hn4 3
   have g4 := blk_cell hn4 4
   have g5 := blk_cell hn4 5
   have g6 := blk_cell hn4 6
   simp only [List.getElem?_toArray, List.getElem?_cons_succ, List.getElem?_cons_zero] at g0 g1 g2 g3 g4 g5 g6
   clear hn4
   have hN : w.heap.size ≤ wr.heap.size := HB.out.size
   have HM := Lib.hid ((k79).M_lower hN ((k79).M_mono (fun k hk => hk.2.1) ((k79).M_bound HM4.out)))
   have HOK := Lib.hid (fun (k : Nat) (hk : wr.heap.size ≤ k) => (⟨trivial, fun e => by have := Kd.R_lt HU.out k e.symm; omega⟩ : True ∧ some k ≠ (Value.slice A1 j c1).ownBlock))
   have HO := Lib.hid (Kd.R_below HU.out HB4.out)
   have HB5 := Lib.hid (HB.out.trans (HB4.out.mono hN))
   have hl5 : ((xs.take j).length + 1) * 88 ≤ 140737488355328 := by rw [HTL.out]; omega
   clear hN
   go_wp2_with (first | (at_builtin; refine Kd.R_append (k79) (w0 := w) (W := w4) w.heap.size rfl (.tmp 17) (.tmp 19) 64 79 (.agg #[.int .i64 0, .int .i64 0, .int .i64 0, .int .i64 0, .int .i64 0, .slice none 0 0, .slice none 0 0]) 88 rfl Tryz.underlying64 info_ins rfl (by decide) (by decide) (.slice A1 j c1) (xs.take j) x [.int .i64 x.f0, .int .i64 x.f1, .int .i64 x.f2, .int .i64 x.f3, .int .i64 x.f4, .slice B0 x.f5.length d0, .slice B1 x.f6.length d1] (fun _ => True) (fun k => wr.heap.size ≤ k) rfl rfl HM.out HOK.out (fun _ _ => trivial) HO.out HB5.out HB5.out.size hl5 ?_; intro u1 w8 hr8 hb8 hg8 hat8; obtain ⟨A2, c2, hu2⟩ := Kd.R_slice hr8; rw [List.length_append, HTL.out, List.length_singleton] at hu2; subst hu2; have HU8 := Lib.hid hr8; have HB8 := Lib.hid hb8; clear hr8 hb8 hg8 hat8))
   go_roundw
   case rel => exact ⟨j + 1, A2, c2, by omega, rfl, by go_num, by rw [← getD_snoc xs j z79 hlt, HF.out]; exact HU8.out, HB8.out⟩
   case measure => simp [intOf]; omega
  ·obtain rfl : j = xs.length := by omega
   rw [List.take_length] at HU
   go_wp2_with fail
   go_ret
   exact ⟨A1, c1, rfl, HU.out, HB.out⟩
set_option maxRecDepth 100000 in
set_option maxHeartbeats 3200000 in
theorem copyFunc_any (x : Fun) (A3 : Option Addr) (c3 : Nat) (w : World) (hC3 : k79.C w A3 x.f3.length x.f3) (hx : FunB x) :
  Calls Tryz.prog 105 #[.agg #[.int .i64 x.f0, .int .i64 x.f1, .int .i64 x.f2, .slice A3 x.f3.length c3]] w fun e w' => ∃ B0 d0, e = .returned (.agg #[.int .i64 x.f0, .int .i64 x.f1, .int .i64 x.f2, .slice B0 x.f3.length d0]) ∧ k79.R 79 w' w.heap.size (fun _ => True) (.slice B0 x.f3.length d0) x.f3 ∧ Below w.heap.size w w' := by
 have HC3 := Lib.hid hC3
 clear hC3
 go_enter Tryz.func105, Tryz.ntmps105
 go_upto_region 1 with (fail)
 have hb2 := two_allocs w (.cells #[.int .i64 x.f0, .int .i64 x.f1, .int .i64 x.f2, .slice A3 x.f3.length c3] 66) (.cells #[.int .i64 0, .int .i64 0, .int .i64 0, .slice none 0 0] 66)
 have f1 := alloc_first w #[.int .i64 x.f0, .int .i64 x.f1, .int .i64 x.f2, .slice A3 x.f3.length c3] 66 (.cells #[.int .i64 0, .int .i64 0, .int .i64 0, .slice none 0 0] 66)
 have f2 := alloc_second w (.cells #[.int .i64 x.f0, .int .i64 x.f1, .int .i64 x.f2, .slice A3 x.f3.length c3] 66) #[.int .i64 0, .int .i64 0, .int .i64 0, .slice none 0 0] 66
 obtain ⟨N, hN⟩ : ∃ N, w.heap.size = N := ⟨_, rfl⟩
 have HN := Lib.hid hN
 rw [hN] at hb2 f1 f2 ⊢
 generalize World.alloc _ _ = W2 at hb2 f1 f2 ⊢
 have hz := blk_lt f2
 have HC := Lib.hid (copyCode_any A3 c3 x.f3 W2 (Kd.C_below HC3.out (hN ▸ hb2)) (by have := hx.1; omega) hx.2)
 have p5 := blk_cell f1 3
 simp only [List.getElem?_toArray, List.getElem?_cons_succ, List.getElem?_cons_zero] at p5
 have HB2 := Lib.hid hb2
 have F1 := Lib.hid f1
 have F2 := Lib.hid f2
 clear hb2 f1 f2 hN
 go_wp2_with fail
 refine HC.out.mono ?_
 rintro e w3 ⟨B0, d0, rfl, hr3, hb3⟩
 have g1 := (hb3.block _ (blk_lt F1.out)).trans F1.out
 have g2 := (hb3.block _ (blk_lt F2.out)).trans F2.out
 clear p5
 have p5 := blk_cell g1 3
 have z5 := blk_frozen g1 3
 simp only [List.getElem?_toArray, List.getElem?_cons_succ, List.getElem?_cons_zero] at p5
 have k1 := blk_put g1 3 (.slice B0 x.f3.length d0) rfl
 simp only [List.setIfInBounds_toArray, List.set_cons_zero, List.set_cons_succ] at k1
 have k2 := blk_far g2 (p := ⟨N, 3, none⟩) (by show N + 1 ≠ N; omega) (.slice B0 x.f3.length d0)
 have HR5 := Lib.hid (R_apart (b := N) (w' := w3.setCell ⟨N, 3, none⟩ (.slice B0 x.f3.length d0)) hr3 (by omega) (fun k hk => Below.heap_setCell w3 ⟨N, 3, none⟩ _ k hk))
 have HB6 := Lib.hid ((HB2.out.trans (hb3.mono (by omega))).setCell (p := ⟨N, 3, none⟩) (Nat.le_refl N) (.slice B0 x.f3.length d0))
 have K5 := Lib.hid k1
 have K6 := Lib.hid k2
 clear HC HB2 F1 F2 hr3 hb3 g1 g2 k1 k2
 go_upto_region 2 with (fail)
 clear p5 z5
 generalize World.setCell _ _ _ = w6 at HR5 HB6 K5 K6 ⊢
 have a0 := blk_cell K5.out 0
 have a1 := blk_cell K5.out 1
 have a2 := blk_cell K5.out 2
 have a3 := blk_cell K5.out 3
 simp only [List.getElem?_toArray, List.getElem?_cons_succ, List.getElem?_cons_zero] at a0 a1 a2 a3
 go_wp2_with (refine put_block 66 (.tmp 2) (.tmp 7) _ [.int .i64 x.f0, .int .i64 x.f1, .int .i64 x.f2, .slice B0 x.f3.length d0] rfl rfl rfl size_fun rfl rfl rfl (by intro q hq; simp only [List.mem_cons, List.not_mem_nil, or_false] at hq; rcases hq with rfl | rfl | rfl | rfl <;> rfl) K6.out rfl ?_; intro w7 h7 hf7 hb7; have H7 := Lib.hid h7; have HF7 := Lib.hid hf7; have HB7 := Lib.hid hb7; clear h7 hf7 hb7 a0 a1 a2 a3)
 have a0 := blk_cell H7.out 0
 have a1 := blk_cell H7.out 1
 have a2 := blk_cell H7.out 2
 have a3 := blk_cell H7.out 3
 simp only [List.getElem?_toArray, List.getElem?_cons_succ, List.getElem?_cons_zero] at a0 a1 a2 a3
 refine bodyPost_ret (v := .agg #[.int .i64 x.f0, .int .i64 x.f1, .int .i64 x.f2, .slice B0 x.f3.length d0]) ?_ rfl ⟨B0, d0, rfl, by rw [HN.out]; exact Kd.R_lower (R_apart HR5.out (by omega) HF7.out) (by omega), by rw [HN.out]; exact HB7.out _ _ HB6.out (by omega)⟩
 simp [results, Tryz.f105, go_sem, a0, a1, a2, a3]
set_option maxRecDepth 100000 in
set_option maxHeartbeats 6400000 in
theorem copyFuncs_any (A : Option Addr) (c : Nat) (xs : List (Fun)) (w : World) (hC : (k66).C w A xs.length xs) (hl : xs.length ≤ 2147483647) (hs : ∀ x ∈ xs, FunB x) :
  Calls Tryz.prog 60 #[.slice A xs.length c] w fun e w' => ∃ A1 c1, e = .returned (.slice A1 xs.length c1) ∧ (k66).R 66 w' w.heap.size (fun _ => True) (.slice A1 xs.length c1) xs ∧ Below w.heap.size w w' := by
 have HC := Lib.hid hC
 have HS := Lib.hid hs
 clear hC hs
 go_enter Tryz.func60, Tryz.ntmps60
 go_upto_region 3 with (fail)
 go_loopw [3, 4] (fun u i wr => ∃ (j : Nat) (A1 : Option Addr) (c1 : Nat), j ≤ xs.length ∧ u = .slice A1 j c1 ∧ i = .int .i64 j ∧ (k66).R 66 wr w.heap.size (fun _ => True) (.slice A1 j c1) (xs.take j) ∧ Below w.heap.size w wr) (fun u i _ => xs.length - (intOf i).toNat)
 case atStart => exact ⟨0, none, 0, by omega, rfl, rfl, Kd.R_nil _ _ _ _ _, Below.refl _ _⟩
 case round =>
  obtain ⟨j, A1, c1, hj, rfl, rfl, hu, hB⟩ := hrel
  have HU := Lib.hid hu
  have HB := Lib.hid hB
  clear hu hB
  by_cases hlt : j < xs.length
  ·obtain ⟨ad, A3, c3, rfl, q0, q1, q2, q3, hc3, hC3⟩ := at_T66 (Kd.C_below HC.out HB.out) (j : Int) (by omega) (by omega)
   obtain ⟨x, hf⟩ : ∃ x, xs.getD j zF = x := ⟨_, rfl⟩
   have hf' : rd_T66 xs (j : Int) = x := hf
   rw [hf', Int.toNat_natCast] at q0 q1 q2 q3
   rw [hf'] at hC3
   clear hf' hc3
   have hxs := HS.out x (hf ▸ getD_memA _ _ _ hlt)
   have HCF := Lib.hid (copyFunc_any x A3 c3 wr hC3 hxs)
   have HF := Lib.hid hf
   clear hf hxs hC3
   have HTL := Lib.hid (show (xs.take j).length = j by rw [List.length_take]; omega)
   go_wp2_with fail
   refine HCF.out.mono ?_
   rintro e w3 ⟨B0, d0, rfl, hr3, hb3⟩
   clear HCF q0 q1 q2 q3
   have hn4 := alloc_new w3 (.cells #[.int .i64 x.f0, .int .i64 x.f1, .int .i64 x.f2, .slice B0 x.f3.length d0] 66)
   have HB4 := Lib.hid (hb3.trans ((below1 w3 (.cells #[.int .i64 x.f0, .int .i64 x.f1, .int .i64 x.f2, .slice B0 x.f3.length d0] 66)).mono hb3.size))
   have HM4 := Lib.hid (Kd.M_below (d := k66) (x := x) (cs := [.int .i64 x.f0, .int .i64 x.f1, .int .i64 x.f2, .slice B0 x.f3.length d0]) (base := wr.heap.size) (ok := fun _ => True) (k66_mkM w3 wr.heap.size (fun _ => True) x hr3) (below1 w3 (.cells #[.int .i64 x.f0, .int .i64 x.f1, .int .i64 x.f2, .slice B0 x.f3.length d0] 66)))
   clear hr3 hb3
   obtain ⟨m, hm⟩ : ∃ m, w3.heap.size = m := ⟨_, rfl⟩
   go_upto_region 6 with (fail)
   rw [hm] at hn4
   clear hm
   generalize World.alloc _ _ = w4 at hn4 HM4 HB4 ⊢
   have g0 := blk_cell hn4 0
   have g1 := blk_cell hn4 1
   have g2 := blk_cell hn4 2
   have g3 := blk_cell hn4 3
   simp only [List.getElem?_toArray, List.getElem?_cons_succ, List.getElem?_cons_zero] at g0 g1 g2 g3
   clear hn4
   have hN : w.heap.size ≤ wr.heap.size := HB.out.size
   have HM := Lib.hid ((k66).M_lower hN ((k66).M_mono (fun k hk => hk.2.1) ((k66).M_bound HM4.out)))
   have HOK := Lib.hid (fun (k : Nat) (hk : wr.heap.size ≤ k) => (⟨trivial, fun e => by have := Kd.R_lt HU.out k e.symm; omega⟩ : True ∧ some k ≠ (Value.slice A1 j c1).ownBlock))
   have HO := Lib.hid (Kd.R_below HU.out HB4.out)
   have HB5 := Lib.hid (HB.out.trans (HB4.out.mono hN))
   have hl5 : ((xs.take j).length + 1) * 48 ≤ 140737488355328 := by rw [HTL.out]; omega
   clear hN
   go_wp2_with (first | (at_builtin; refine Kd.R_append (k66) (w0 := w) (W := w4) w.heap.size rfl (.tmp 17) (.tmp 19) 22 66 (.agg #[.int .i64 0, .int .i64 0, .int .i64 0, .slice none 0 0]) 48 rfl Tryz.underlying22 info_fun rfl (by decide) (by decide) (.slice A1 j c1) (xs.take j) x [.int .i64 x.f0, .int .i64 x.f1, .int .i64 x.f2, .slice B0 x.f3.length d0] (fun _ => True) (fun k => wr.heap.size ≤ k) rfl rfl HM.out HOK.out (fun _ _ => trivial) HO.out HB5.out HB5.out.size hl5 ?_; intro u1 w8 hr8 hb8 hg8 hat8; obtain ⟨A2, c2, hu2⟩ := Kd.R_slice hr8; rw [List.length_append, HTL.out, List.length_singleton] at hu2; subst hu2; have HU8 := Lib.hid hr8; have HB8 := Lib.hid hb8; clear hr8 hb8 hg8 hat8))
   go_roundw
   case rel => exact ⟨j + 1, A2, c2, by omega, rfl, by go_num, by rw [← getD_snoc xs j zF hlt, HF.out]; exact HU8.out, HB8.out⟩
   case measure => simp [intOf]; omega
  ·obtain rfl : j = xs.length := by omega
   rw [List.take_length] at HU
   go_wp2_with fail
   go_ret
   exact ⟨A1, c1, rfl, HU.out, HB.out⟩
set_option maxRecDepth 100000 in
set_option maxHeartbeats 6400000 in
theorem copyProg_any (G : Int) (A : Option Addr) (c : Nat) (fs : List Fun) (w : World) (hC : k66.C w A fs.length fs) (hl : fs.length ≤ 2147483647) (hs : ∀ f ∈ fs, FunB f) :
  Calls Tryz.prog 19 #[.agg #[.int .i64 G, .slice A fs.length c]] w fun e w' => ∃ A2 c2, e = .returned (.agg #[.int .i64 G, .slice A2 fs.length c2]) ∧ k66.R 66 w' w.heap.size (fun _ => True) (.slice A2 fs.length c2) fs ∧ Below w.heap.size w w' := by
 have HCF := Lib.hid (fun (X : World) (hX : Below w.heap.size w X) => copyFuncs_any A c fs X (Kd.C_below hC hX) hl hs)
 clear hC hs
 go_enter Tryz.func19, Tryz.ntmps19
 go_upto_region 1 with (fail)
 have hb2 := two_allocs w (.cells #[.int .i64 G, .slice A fs.length c] 24) (.cells #[.int .i64 0, .slice none 0 0] 24)
 have f1 := alloc_first w #[.int .i64 G, .slice A fs.length c] 24 (.cells #[.int .i64 0, .slice none 0 0] 24)
 have f2 := alloc_second w (.cells #[.int .i64 G, .slice A fs.length c] 24) #[.int .i64 0, .slice none 0 0] 24
 obtain ⟨N, hN⟩ : ∃ N, w.heap.size = N := ⟨_, rfl⟩
 have HN := Lib.hid hN
 have HC2 := Lib.hid (HCF.out _ (below_drew hb2))
 rw [hN] at hb2 f1 f2 ⊢
 clear hN HCF
 generalize World.alloc _ _ = W2 at hb2 f1 f2 HC2 ⊢
 have hb2 : Below N w W2.drew := below_drew hb2
 have f1 : W2.drew.heap[N]? = _ := f1
 have f2 : W2.drew.heap[N + 1]? = _ := f2
 have HZ := Lib.hid (blk_lt f2)
 have HB2 := Lib.hid hb2
 have F1 := Lib.hid f1
 have F2 := Lib.hid f2
 have p0 := blk_cell f1 0
 have p1 := blk_cell f1 1
 simp only [List.getElem?_toArray, List.getElem?_cons_succ, List.getElem?_cons_zero] at p0 p1
 clear hb2 f1 f2
 go_region_held3 (fun w' => w'.cell? ⟨N, 0, none⟩ = some (.int .i64 G) ∧ w'.cell? ⟨N, 1, none⟩ = some (.slice A fs.length c))
  (first | (go_keep; done) | exact ⟨q0, q1⟩)
  (first | (go_at_call 60; refine HC2.out.mono ?_; rintro e w3 ⟨A2, c2, rfl, hs3, hb3⟩; have q0 := below_cells hb3 _ _ p0; have q1 := below_cells hb3 _ _ p1; have h2 := (hb3.block _ (blk_lt F2.out)).trans F2.out; have g0 := blk_cell h2 0; have g1 := blk_cell h2 1; have z0 := blk_frozen h2 0; have z1 := blk_frozen h2 1; simp only [List.getElem?_toArray, List.getElem?_cons_succ, List.getElem?_cons_zero] at g0 g1; have HS3 := Lib.hid hs3; have H2 := Lib.hid h2; have HB3 := Lib.hid (HB2.out.trans (hb3.mono (Nat.le_of_lt (blk_lt F1.out)))); clear hs3 hb3 h2))
 have k1 := blk_put H2.out 0 (.int .i64 G) rfl
 have k2 := blk_put k1 1 (.slice A2 fs.length c2) rfl
 simp only [List.setIfInBounds_toArray, List.set_cons_zero, List.set_cons_succ] at k2
 have hs5 := Kd.R_lower (R_apart (b := N + 1) (R_apart (b := N + 1) HS3.out HZ.out (fun k hk => Below.heap_setCell w3 ⟨N + 1, 0, none⟩ (.int .i64 G) k hk)) HZ.out (fun k hk => Below.heap_setCell (w3.setCell ⟨N + 1, 0, none⟩ (.int .i64 G)) ⟨N + 1, 1, none⟩ (.slice A2 fs.length c2) k hk)) (Nat.le_of_lt (Nat.lt_of_le_of_lt (Nat.le_succ N) HZ.out))
 have hb5 := (HB3.out.setCell (p := ⟨N + 1, 0, none⟩) (Nat.le_succ N) (.int .i64 G)).setCell (p := ⟨N + 1, 1, none⟩) (Nat.le_succ N) (.slice A2 fs.length c2)
 have HS5 := Lib.hid hs5
 have HB5 := Lib.hid hb5
 generalize World.setCell _ _ _ = w5 at k2 HS5 HB5 ⊢
 have x0 := blk_cell k2 0
 have x1 := blk_cell k2 1
 simp only [List.getElem?_toArray, List.getElem?_cons_succ, List.getElem?_cons_zero] at x0 x1
 clear k1 k2 hs5 hb5 g0 g1 z0 z1
 go_wp2_with fail
 refine bodyPost_ret (v := .agg #[.int .i64 G, .slice A2 fs.length c2]) ?_ rfl ⟨A2, c2, rfl, by rw [HN.out]; exact HS5.out, by rw [HN.out]; exact HB5.out⟩
 simp [results, Tryz.f19, go_sem, x0, x1]
set_option maxRecDepth 100000 in
set_option maxHeartbeats 6400000 in
theorem copySummary_any (x : Smm) (A3 : Option Addr) (c3 : Nat) (A4 : Option Addr) (c4 : Nat) (w : World) (hC3 : (Kd.int .i64).C w A3 x.f0.length x.f0) (hC4 : (Kd.slice 3 (Kd.int .i64)).C w A4 x.f1.length x.f1) (hx : SumB x) :
  Calls Tryz.prog 61 #[.agg #[.slice A3 x.f0.length c3, .slice A4 x.f1.length c4]] w fun e w' => ∃ B0 d0 B1 d1, e = .returned (.agg #[.slice B0 x.f0.length d0, .slice B1 x.f1.length d1]) ∧ (Kd.int .i64).R 3 w' w.heap.size (fun _ => True) (.slice B0 x.f0.length d0) x.f0 ∧ (Kd.slice 3 (Kd.int .i64)).R 31 w' w.heap.size (fun _ => True) (.slice B1 x.f1.length d1) x.f1 ∧ Below w.heap.size w w' := by
 have HCI := Lib.hid (fun (X : World) (hX : Below w.heap.size w X) => copyInts_any X A3 c3 x.f0 (Kd.C_below hC3 hX) (by have := hx.1; omega))
 have HCL := Lib.hid (fun (X : World) (hX : Below w.heap.size w X) => copyLists_any A4 c4 x.f1 X (Kd.C_below hC4 hX) (by have := hx.2.1; omega) (fun r hr => by have := hx.2.2 r hr; omega))
 clear hC3 hC4 hx
 go_enter Tryz.func61, Tryz.ntmps61
 go_upto_region 1 with (fail)
 have hb2 := two_allocs w (.cells #[.slice A3 x.f0.length c3, .slice A4 x.f1.length c4] 34) (.cells #[.slice none 0 0, .slice none 0 0] 34)
 have f1 := alloc_first w #[.slice A3 x.f0.length c3, .slice A4 x.f1.length c4] 34 (.cells #[.slice none 0 0, .slice none 0 0] 34)
 have f2 := alloc_second w (.cells #[.slice A3 x.f0.length c3, .slice A4 x.f1.length c4] 34) #[.slice none 0 0, .slice none 0 0] 34
 obtain ⟨N, hN⟩ : ∃ N, w.heap.size = N := ⟨_, rfl⟩
 have HN := Lib.hid hN
 have HC2 := Lib.hid (HCI.out _ (below_drew hb2))
 have HBW := Lib.hid (below_drew hb2)
 rw [hN] at hb2 f1 f2 ⊢
 clear hN HCI
 generalize World.alloc _ _ = W2 at hb2 f1 f2 HC2 HBW ⊢
 have hb2 : Below N w W2.drew := below_drew hb2
 have f1 : W2.drew.heap[N]? = _ := f1
 have f2 : W2.drew.heap[N + 1]? = _ := f2
 have HZ := Lib.hid (blk_lt f2)
 have HB2 := Lib.hid hb2
 have F1 := Lib.hid f1
 have F2 := Lib.hid f2
 have p0 := blk_cell f1 0
 have p1 := blk_cell f1 1
 simp only [List.getElem?_toArray, List.getElem?_cons_succ, List.getElem?_cons_zero] at p0 p1
 clear hb2 f1 f2
 go_region_held3 (fun w' => w'.cell? ⟨N, 0, none⟩ = some (.slice A3 x.f0.length c3) ∧ w'.cell? ⟨N, 1, none⟩ = some (.slice A4 x.f1.length c4))
  (first | (go_keep; done) | exact ⟨q0, q1⟩)
  (first | (go_at_call 92; refine HC2.out.mono ?_; rintro e w3 ⟨B0, d0, rfl, hr3, hb3⟩; have q0 := below_cells hb3 _ _ p0; have q1 := below_cells hb3 _ _ p1; have HR3 := Lib.hid hr3; have HB3 := Lib.hid hb3; clear hr3 hb3) | (go_at_call 106; refine (HCL.out w3 (HBW.out.trans (HB3.out.mono (by have := HZ.out; have := HN.out; omega)))).mono ?_; rintro e w4 ⟨B1, d1, rfl, hr4, hb4⟩; clear q0 q1; have hb34 := HB3.out.trans (hb4.mono HB3.out.size); have q0 := below_cells hb34 _ _ p0; have q1 := below_cells hb34 _ _ p1; have h2 := (hb34.block _ (blk_lt F2.out)).trans F2.out; have g0 := blk_cell h2 0; have g1 := blk_cell h2 1; have z0 := blk_frozen h2 0; have z1 := blk_frozen h2 1; simp only [List.getElem?_toArray, List.getElem?_cons_succ, List.getElem?_cons_zero] at g0 g1; have HS3 := Lib.hid (Kd.R_below HR3.out hb4); have HZ3 := Lib.hid (show W2.drew.heap.size ≤ w3.heap.size from HB3.out.size); have HS4 := Lib.hid (Kd.R_lower hr4 HZ3.out); have H2 := Lib.hid h2; have HB4 := Lib.hid (HB2.out.trans (hb34.mono (Nat.le_of_lt (blk_lt F1.out)))); clear hr4 hb4 hb34 h2))
 have k1 := blk_put H2.out 0 (.slice B0 x.f0.length d0) rfl
 have k2 := blk_put k1 1 (.slice B1 x.f1.length d1) rfl
 simp only [List.setIfInBounds_toArray, List.set_cons_zero, List.set_cons_succ] at k2
 have hf1 := fun k (hk : k ≠ N + 1) => Below.heap_setCell w4 ⟨N + 1, 0, none⟩ (.slice B0 x.f0.length d0) k hk
 have hf2 := fun k (hk : k ≠ N + 1) => Below.heap_setCell (w4.setCell ⟨N + 1, 0, none⟩ (.slice B0 x.f0.length d0)) ⟨N + 1, 1, none⟩ (.slice B1 x.f1.length d1) k hk
 have HS5 := Lib.hid (Kd.R_lower (R_apart (b := N + 1) (R_apart (b := N + 1) HS3.out HZ.out hf1) HZ.out hf2) (Nat.le_of_lt (Nat.lt_of_le_of_lt (Nat.le_succ N) HZ.out)))
 have HS6 := Lib.hid (Kd.R_lower (R_apart (b := N + 1) (R_apart (b := N + 1) HS4.out HZ.out hf1) HZ.out hf2) (Nat.le_of_lt (Nat.lt_of_le_of_lt (Nat.le_succ N) HZ.out)))
 have HB5 := Lib.hid ((HB4.out.setCell (p := ⟨N + 1, 0, none⟩) (Nat.le_succ N) (.slice B0 x.f0.length d0)).setCell (p := ⟨N + 1, 1, none⟩) (Nat.le_succ N) (.slice B1 x.f1.length d1))
 clear hf1 hf2
 generalize World.setCell _ _ _ = w5 at k2 HS5 HS6 HB5 ⊢
 have x0 := blk_cell k2 0
 have x1 := blk_cell k2 1
 simp only [List.getElem?_toArray, List.getElem?_cons_succ, List.getElem?_cons_zero] at x0 x1
 clear k1 k2 g0 g1 z0 z1
 go_wp2_with fail
 refine bodyPost_ret (v := .agg #[.slice B0 x.f0.length d0, .slice B1 x.f1.length d1]) ?_ rfl ⟨B0, d0, B1, d1, rfl, by rw [HN.out]; exact HS5.out, by rw [HN.out]; exact HS6.out, by rw [HN.out]; exact HB5.out⟩
 simp [results, Tryz.f61, go_sem, x0, x1]
set_option maxRecDepth 100000 in
set_option maxHeartbeats 6400000 in
theorem copySums_any (A : Option Addr) (c : Nat) (xs : List (Smm)) (w : World) (hC : (k34).C w A xs.length xs) (hl : xs.length ≤ 2147483647) (hs : ∀ x ∈ xs, SumB x) :
  Calls Tryz.prog 20 #[.slice A xs.length c] w fun e w' => ∃ A1 c1, e = .returned (.slice A1 xs.length c1) ∧ (k34).R 34 w' w.heap.size (fun _ => True) (.slice A1 xs.length c1) xs ∧ Below w.heap.size w w' := by
 have HC := Lib.hid hC
 have HS := Lib.hid hs
 clear hC hs
 go_enter Tryz.func20, Tryz.ntmps20
 go_upto_region 3 with (fail)
 go_loopw [3, 4] (fun u i wr => ∃ (j : Nat) (A1 : Option Addr) (c1 : Nat), j ≤ xs.length ∧ u = .slice A1 j c1 ∧ i = .int .i64 j ∧ (k34).R 34 wr w.heap.size (fun _ => True) (.slice A1 j c1) (xs.take j) ∧ Below w.heap.size w wr) (fun u i _ => xs.length - (intOf i).toNat)
 case atStart => exact ⟨0, none, 0, by omega, rfl, rfl, Kd.R_nil _ _ _ _ _, Below.refl _ _⟩
 case round =>
  obtain ⟨j, A1, c1, hj, rfl, rfl, hu, hB⟩ := hrel
  have HU := Lib.hid hu
  have HB := Lib.hid hB
  clear hu hB
  by_cases hlt : j < xs.length
  ·obtain ⟨ad, A3, c3, A4, c4, rfl, q0, q1, hc3, hC3, hc4, hC4⟩ := at_T34 (Kd.C_below HC.out HB.out) (j : Int) (by omega) (by omega)
   obtain ⟨x, hf⟩ : ∃ x, xs.getD j zS = x := ⟨_, rfl⟩
   have hf' : rd_T34 xs (j : Int) = x := hf
   rw [hf', Int.toNat_natCast] at q0 q1
   rw [hf'] at hC3 hC4
   clear hf' hc3 hc4
   have hxs := HS.out x (hf ▸ getD_memA _ _ _ hlt)
   have HCF := Lib.hid (copySummary_any x A3 c3 A4 c4 wr hC3 hC4 hxs)
   have HF := Lib.hid hf
   clear hf hxs hC3 hC4
   have HTL := Lib.hid (show (xs.take j).length = j by rw [List.length_take]; omega)
   go_wp2_with fail
   refine HCF.out.mono ?_
   rintro e w3 ⟨B0, d0, B1, d1, rfl, hr3, hr4, hb3⟩
   clear HCF q0 q1
   have hn4 := alloc_new w3 (.cells #[.slice B0 x.f0.length d0, .slice B1 x.f1.length d1] 34)
   have HB4 := Lib.hid (hb3.trans ((below1 w3 (.cells #[.slice B0 x.f0.length d0, .slice B1 x.f1.length d1] 34)).mono hb3.size))
   have HM4 := Lib.hid (Kd.M_below (d := k34) (x := x) (cs := [.slice B0 x.f0.length d0, .slice B1 x.f1.length d1]) (base := wr.heap.size) (ok := fun _ => True) (k34_mkM w3 wr.heap.size (fun _ => True) x hr3 hr4) (below1 w3 (.cells #[.slice B0 x.f0.length d0, .slice B1 x.f1.length d1] 34)))
   clear hr3 hr4 hb3
   obtain ⟨m, hm⟩ : ∃ m, w3.heap.size = m := ⟨_, rfl⟩
   go_upto_region 6 with (fail)
   rw [hm] at hn4
   clear hm
   generalize World.alloc _ _ = w4 at hn4 HM4 HB4 ⊢
   have g0 := blk_cell hn4 0
   have g1 := blk_cell hn4 1
   simp only [List.getElem?_toArray, List.getElem?_cons_succ, List.getElem?_cons_zero] at g0 g1
   clear hn4
   have hN : w.heap.size ≤ wr.heap.size := HB.out.size
   have HM := Lib.hid ((k34).M_lower hN ((k34).M_mono (fun k hk => hk.2.1) ((k34).M_bound HM4.out)))
   have HOK := Lib.hid (fun (k : Nat) (hk : wr.heap.size ≤ k) => (⟨trivial, fun e => by have := Kd.R_lt HU.out k e.symm; omega⟩ : True ∧ some k ≠ (Value.slice A1 j c1).ownBlock))
   have HO := Lib.hid (Kd.R_below HU.out HB4.out)
   have HB5 := Lib.hid (HB.out.trans (HB4.out.mono hN))
   have hl5 : ((xs.take j).length + 1) * 48 ≤ 140737488355328 := by rw [HTL.out]; omega
   clear hN
   go_wp2_with (first | (at_builtin; refine Kd.R_append (k34) (w0 := w) (W := w4) w.heap.size rfl (.tmp 17) (.tmp 19) 25 34 (.agg #[.slice none 0 0, .slice none 0 0]) 48 rfl Tryz.underlying25 info34 rfl (by decide) (by decide) (.slice A1 j c1) (xs.take j) x [.slice B0 x.f0.length d0, .slice B1 x.f1.length d1] (fun _ => True) (fun k => wr.heap.size ≤ k) rfl rfl HM.out HOK.out (fun _ _ => trivial) HO.out HB5.out HB5.out.size hl5 ?_; intro u1 w8 hr8 hb8 hg8 hat8; obtain ⟨A2, c2, hu2⟩ := Kd.R_slice hr8; rw [List.length_append, HTL.out, List.length_singleton] at hu2; subst hu2; have HU8 := Lib.hid hr8; have HB8 := Lib.hid hb8; clear hr8 hb8 hg8 hat8))
   go_roundw
   case rel => exact ⟨j + 1, A2, c2, by omega, rfl, by go_num, by rw [← getD_snoc xs j zS hlt, HF.out]; exact HU8.out, HB8.out⟩
   case measure => simp [intOf]; omega
  ·obtain rfl : j = xs.length := by omega
   rw [List.take_length] at HU
   go_wp2_with fail
   go_ret
   exact ⟨A1, c1, rfl, HU.out, HB.out⟩
theorem over_any (n : Int) (w : World) : Calls Tryz.prog 38 #[.int .i64 n] w fun e w' => e = .returned (.bool (decide (2147483647 < n))) ∧ w' = w := by
 go_enter Tryz.func38, Tryz.ntmps38
 go_wp2_with fail
 go_ret
 exact ⟨rfl, rfl⟩
def ReachI (x : Ins) : Prop := x.f5.length ≤ 17592186044416 ∧ x.f6.length ≤ 17592186044416
def ReachF (f : Fun) : Prop := f.f3.length ≤ 17592186044416 ∧ ∀ x ∈ f.f3, ReachI x
def ReachS (s : Smm) : Prop := s.f0.length ≤ 17592186044416 ∧ s.f1.length ≤ 17592186044416 ∧ ∀ r ∈ s.f1, r.length ≤ 17592186044416
set_option maxRecDepth 100000 in
set_option maxHeartbeats 6400000 in
theorem long_any (G : Int) (A : Option Addr) (c : Nat) (fs : List Fun) (w : World) (hC : k66.C w A fs.length fs) (hl : fs.length ≤ 17592186044416) (hs : ∀ f ∈ fs, ReachF f) :
  Calls Tryz.prog 7 #[.agg #[.int .i64 G, .slice A fs.length c]] w fun e w' => ∃ b, e = .returned (.bool b) ∧ Below w.heap.size w w' ∧ (b = false → fs.length ≤ 2147483647 ∧ ∀ f ∈ fs, FunB f) := by
 have HC := Lib.hid hC
 have HS := Lib.hid hs
 clear hC hs
 go_enter Tryz.func7, Tryz.ntmps7
 go_upto_region 1 with (fail)
 have hbx := below1 w (.cells #[.int .i64 G, .slice A fs.length c] 24)
 have hbn := alloc_new w (.cells #[.int .i64 G, .slice A fs.length c] 24)
 obtain ⟨N, hN⟩ : ∃ N, w.heap.size = N := ⟨_, rfl⟩
 have HN := Lib.hid hN
 rw [hN] at hbx hbn ⊢
 clear hN
 generalize World.alloc _ _ = w1 at hbx hbn ⊢
 have p1 := blk_cell hbn 1
 simp only [List.getElem?_toArray, List.getElem?_cons_succ, List.getElem?_cons_zero] at p1
 have HB := Lib.hid hbx
 clear hbx hbn
 go_wp2_with fail
 go_loopw [3, 4] (fun v i wr => ∃ (n : Int) (j : Nat), j ≤ fs.length ∧ v = .int .i64 n ∧ i = .int .i64 j ∧ (fs.length : Int) ≤ n ∧ n ≤ 70368744177664 ∧ (n ≤ 2147483647 → ∀ q, q < j → FunB (fs.getD q zF)) ∧ Below N w wr ∧ wr.cell? ⟨N, 1, none⟩ = some (.slice A fs.length c)) (fun _ i _ => fs.length - (intOf i).toNat)
 case atStart => exact ⟨_, 0, by omega, rfl, rfl, by omega, by omega, fun _ q hq => by omega, HB.out, p1⟩
 case round =>
  clear HB p1
  obtain ⟨n, j, hj, rfl, rfl, hn1, hn2, hg, hb, p1⟩ := hrel
  have HG := Lib.hid hg
  have HB := Lib.hid hb
  clear hg hb
  by_cases hlt : j < fs.length
  ·by_cases hL : 2147483647 < n
   ·go_wp2_with (go_at_call 38; refine (over_any _ _).mono ?_; rintro e w2 ⟨rfl, rfl⟩; rw [decide_eq_true hL])
    go_ret
    exact ⟨true, rfl, HN.out ▸ HB.out, fun h => by cases h⟩
   ·obtain ⟨ad, A3, c3, rfl, q0, q1, q2, q3, hc3, hC3⟩ := at_T66 (Kd.C_below HC.out (HN.out ▸ HB.out)) (j : Int) (by omega) (by omega)
    obtain ⟨f, hf⟩ : ∃ f, fs.getD j zF = f := ⟨_, rfl⟩
    have hf' : rd_T66 fs (j : Int) = f := hf
    rw [hf', Int.toNat_natCast] at q3
    rw [hf'] at hC3
    have hfr := HS.out f (hf ▸ getD_memA _ _ _ hlt)
    have hw1 : IntKind.i64.wrap (n + (f.f3.length : Int)) = n + (f.f3.length : Int) := IntWalk.i64_in _ (by have := hfr.1; omega)
    have HFR := Lib.hid hfr
    have HF := Lib.hid hf
    have HC3 := Lib.hid hC3
    clear hf hf' hfr hC3 hc3 q0 q1 q2
    have Q3 := Lib.hid q3
    go_upto_region 7 with (go_at_call 38; refine (over_any _ _).mono ?_; rintro e w2 ⟨rfl, rfl⟩; rw [decide_eq_false hL])
    go_loopw [3, 5] (fun v i wr => ∃ (m : Int) (k : Nat), k ≤ f.f3.length ∧ v = .int .i64 m ∧ i = .int .i64 k ∧ (fs.length : Int) ≤ m ∧ m ≤ 70368744177664 ∧ (m ≤ 2147483647 → n ≤ 2147483647 ∧ (fs.length : Int) + f.f3.length ≤ m ∧ ∀ q, q < k → InsB (f.f3.getD q z79)) ∧ Below N w wr ∧ wr.cell? ⟨N, 1, none⟩ = some (.slice (some ad) fs.length c) ∧ wr.cell? ⟨(ad.add (j * 4)).block, (ad.add (j * 4)).off + 3, none⟩ = some (.slice A3 f.f3.length c3) ∧ k79.C wr A3 f.f3.length f.f3) (fun _ i _ => f.f3.length - (intOf i).toNat)
    case atStart => exact ⟨_, 0, by omega, rfl, rfl, by omega, by have := HFR.out.1; omega, fun _ => ⟨by omega, by omega, fun q hq => by omega⟩, HB.out, p1, q3, HC3.out⟩
    case round =>
     clear HB p1 q3 HC3 Q3
     obtain ⟨m, k, hk, rfl, rfl, hm1, hm2, hg2, hb, p1, q3, hC3⟩ := hrel
     have HG2 := Lib.hid hg2
     have HB := Lib.hid hb
     have HC3 := Lib.hid hC3
     clear hg2 hb hC3
     by_cases hkt : k < f.f3.length
     ·by_cases hL2 : 2147483647 < m
      ·go_wp2_with (first | (go_at_call 38; refine (over_any _ _).mono ?_; rintro e w2 ⟨rfl, rfl⟩; rw [decide_eq_true hL2]))
       go_roundw
       case rel => exact ⟨m, j + 1, by omega, rfl, by go_num, by omega, by omega, fun h => by omega, HB.out, p1⟩
       case measure => simp [intOf]; omega
      ·obtain ⟨ad3, A5, c5, A6, c6, rfl, r0, r1, r2, r3, r4, r5, r6, hc5, hC5, hc6, hC6⟩ := at_T79 HC3.out (k : Int) (by omega) (by omega)
       obtain ⟨x, hx⟩ : ∃ x, f.f3.getD k z79 = x := ⟨_, rfl⟩
       have hx' : rd_T79 f.f3 (k : Int) = x := hx
       rw [hx', Int.toNat_natCast] at r5 r6
       have hxr := HFR.out.2 x (hx ▸ getD_memA _ _ _ hkt)
       have hw2 : IntKind.i64.wrap (m + (x.f5.length : Int)) = m + (x.f5.length : Int) := IntWalk.i64_in _ (by have := hxr.1; omega)
       have hw3 : IntKind.i64.wrap (m + (x.f5.length : Int) + (x.f6.length : Int)) = m + (x.f5.length : Int) + (x.f6.length : Int) := IntWalk.i64_in _ (by have := hxr.1; have := hxr.2; omega)
       have HXR := Lib.hid hxr
       have HX := Lib.hid hx
       clear hx hx' hxr r0 r1 r2 r3 r4 hc5 hC5 hc6 hC6
       go_upto_region 9 with (go_at_call 38; refine (over_any _ _).mono ?_; rintro e w2 ⟨rfl, rfl⟩; rw [decide_eq_false hL2])
       go_quiet (fail)
       have hfl := HFR.out.1
       go_upto_region 8 with (fail)
       go_wp2_with fail
       go_roundw
       case rel =>
        refine ⟨_, k + 1, by omega, rfl, by go_num, by omega, by have := HXR.out.1; have := HXR.out.2; omega, fun h => ?_, below_drewN HB.out _, p1, q3, Kd.C_drewN HC3.out _⟩
        obtain ⟨g1, g2, g3⟩ := HG2.out (by omega)
        refine ⟨g1, by omega, fun q hq => ?_⟩
        by_cases hqk : q < k
        ·exact g3 q hqk
        ·obtain rfl : q = k := by omega
         rw [HX.out]
         exact ⟨by omega, by omega⟩
       case measure => simp [intOf]; omega
     ·obtain rfl : k = f.f3.length := by omega
      go_wp2_with fail
      go_roundw
      case rel =>
       refine ⟨m, j + 1, by omega, rfl, by go_num, by omega, by omega, fun h => ?_, HB.out, p1⟩
       obtain ⟨g1, g2, g3⟩ := HG2.out h
       intro q hq
       by_cases hqk : q < j
       ·exact HG.out g1 q hqk
       ·obtain rfl : q = j := by omega
        rw [HF.out]
        refine ⟨by omega, fun x hx => ?_⟩
        obtain ⟨i, hi, rfl⟩ := List.getElem_of_mem hx
        have := g3 i hi
        rwa [List.getD_eq_getElem?_getD, List.getElem?_eq_getElem hi] at this
      case measure => simp [intOf]; omega
  ·obtain rfl : j = fs.length := by omega
   by_cases hL : 2147483647 < n
   ·go_wp2_with (go_at_call 38; refine (over_any _ _).mono ?_; rintro e w2 ⟨rfl, rfl⟩; rw [decide_eq_true hL])
    go_ret
    exact ⟨true, rfl, HN.out ▸ HB.out, fun h => by cases h⟩
   ·go_wp2_with (go_at_call 38; refine (over_any _ _).mono ?_; rintro e w2 ⟨rfl, rfl⟩; rw [decide_eq_false hL])
    go_ret
    refine ⟨false, rfl, HN.out ▸ HB.out, fun _ => ⟨by omega, fun f hf => ?_⟩⟩
    obtain ⟨i, hi, rfl⟩ := List.getElem_of_mem hf
    have := HG.out (by omega) i hi
    rwa [List.getD_eq_getElem?_getD, List.getElem?_eq_getElem hi] at this
set_option maxRecDepth 100000 in
set_option maxHeartbeats 6400000 in
theorem longSums_any (A : Option Addr) (c : Nat) (ss : List Smm) (w : World) (hC : k34.C w A ss.length ss) (hl : ss.length ≤ 17592186044416) (hs : ∀ s ∈ ss, ReachS s) :
  Calls Tryz.prog 8 #[.slice A ss.length c] w fun e w' => ∃ b, e = .returned (.bool b) ∧ Below w.heap.size w w' ∧ (b = false → ss.length ≤ 2147483647 ∧ ∀ s ∈ ss, SumB s) := by
 have HC := Lib.hid hC
 have HS := Lib.hid hs
 clear hC hs
 go_enter Tryz.func8, Tryz.ntmps8
 go_wp2_with fail
 go_loopw [3, 4] (fun v i wr => ∃ (n : Int) (j : Nat), j ≤ ss.length ∧ v = .int .i64 n ∧ i = .int .i64 j ∧ (ss.length : Int) ≤ n ∧ n ≤ 70368744177664 ∧ (n ≤ 2147483647 → ∀ q, q < j → SumB (ss.getD q zS)) ∧ Below w.heap.size w wr) (fun _ i _ => ss.length - (intOf i).toNat)
 case atStart => exact ⟨_, 0, by omega, rfl, rfl, by omega, by omega, fun _ q hq => by omega, Below.refl _ _⟩
 case round =>
  obtain ⟨n, j, hj, rfl, rfl, hn1, hn2, hg, hb⟩ := hrel
  have HG := Lib.hid hg
  have HB := Lib.hid hb
  clear hg hb
  by_cases hlt : j < ss.length
  ·by_cases hL : 2147483647 < n
   ·go_wp2_with (go_at_call 38; refine (over_any _ _).mono ?_; rintro e w2 ⟨rfl, rfl⟩; rw [decide_eq_true hL])
    go_ret
    exact ⟨true, rfl, HB.out, fun h => by cases h⟩
   ·obtain ⟨ad, A3, c3, A4, c4, rfl, q0, q1, hc3, hC3, hc4, hC4⟩ := at_T34 (Kd.C_below HC.out HB.out) (j : Int) (by omega) (by omega)
    obtain ⟨f, hf⟩ : ∃ f, ss.getD j zS = f := ⟨_, rfl⟩
    have hf' : rd_T34 ss (j : Int) = f := hf
    rw [hf', Int.toNat_natCast] at q0 q1
    rw [hf'] at hC4
    have hfr := HS.out f (hf ▸ getD_memA _ _ _ hlt)
    have hw1 : IntKind.i64.wrap (n + (f.f0.length : Int)) = n + (f.f0.length : Int) := IntWalk.i64_in _ (by have := hfr.1; omega)
    have hw2 : IntKind.i64.wrap (n + (f.f0.length : Int) + (f.f1.length : Int)) = n + (f.f0.length : Int) + (f.f1.length : Int) := IntWalk.i64_in _ (by have := hfr.1; have := hfr.2.1; omega)
    have HFR := Lib.hid hfr
    have HF := Lib.hid hf
    have HC4 := Lib.hid hC4
    clear hf hf' hfr hC3 hc3 hC4 hc4
    go_upto_region 5 with (go_at_call 38; refine (over_any _ _).mono ?_; rintro e w2 ⟨rfl, rfl⟩; rw [decide_eq_false hL])
    go_quiet (fail)
    go_upto_region 7 with (fail)
    go_loopw [3, 5] (fun v i wr => ∃ (m : Int) (k : Nat), k ≤ f.f1.length ∧ v = .int .i64 m ∧ i = .int .i64 k ∧ (ss.length : Int) ≤ m ∧ m ≤ 70368744177664 ∧ (m ≤ 2147483647 → n ≤ 2147483647 ∧ (ss.length : Int) + f.f0.length + f.f1.length ≤ m ∧ ∀ q, q < k → (f.f1.getD q []).length ≤ 2147483646) ∧ Below w.heap.size w wr ∧ wr.cell? ⟨(ad.add (j * 2)).block, (ad.add (j * 2)).off + 1, none⟩ = some (.slice A4 f.f1.length c4) ∧ (Kd.slice 3 (Kd.int .i64)).C wr A4 f.f1.length f.f1) (fun _ i _ => f.f1.length - (intOf i).toNat)
    case atStart => exact ⟨_, 0, by omega, rfl, rfl, by omega, by have := HFR.out.1; have := HFR.out.2.1; omega, fun _ => ⟨by omega, by omega, fun q hq => by omega⟩, below_drewN HB.out _, q1, Kd.C_drewN HC4.out _⟩
    case round =>
     clear HB q0 q1 HC4
     obtain ⟨m, k, hk, rfl, rfl, hm1, hm2, hg2, hb, q1, hC4⟩ := hrel
     have HG2 := Lib.hid hg2
     have HB := Lib.hid hb
     have HC4 := Lib.hid hC4
     clear hg2 hb hC4
     by_cases hkt : k < f.f1.length
     ·by_cases hL2 : 2147483647 < m
      ·go_wp2_with (first | (go_at_call 38; refine (over_any _ _).mono ?_; rintro e w2 ⟨rfl, rfl⟩; rw [decide_eq_true hL2]))
       go_roundw
       case rel => exact ⟨m, j + 1, by omega, rfl, by go_num, by omega, by omega, fun h => by omega, HB.out⟩
       case measure => simp [intOf]; omega
      ·obtain ⟨ad3, A5, c5, hA, r0, hc5, hC5⟩ := at_rowI HC4.out k hkt
       subst hA
       obtain ⟨x, hx⟩ : ∃ x, f.f1.getD k [] = x := ⟨_, rfl⟩
       rw [hx] at r0
       have hxr := HFR.out.2.2 x (hx ▸ getD_memA _ _ _ hkt)
       have hw3 : IntKind.i64.wrap (m + (x.length : Int)) = m + (x.length : Int) := IntWalk.i64_in _ (by omega)
       have HX := Lib.hid hx
       clear hx hc5 hC5
       have hfl := HFR.out.2.1
       go_wp2_with (go_at_call 38; refine (over_any _ _).mono ?_; rintro e w2 ⟨rfl, rfl⟩; rw [decide_eq_false hL2])
       go_roundw
       case rel =>
        refine ⟨_, k + 1, by omega, rfl, by go_num, by omega, by omega, fun h => ?_, HB.out, q1, HC4.out⟩
        obtain ⟨g1, g2, g3⟩ := HG2.out (by omega)
        refine ⟨g1, by omega, fun q hq => ?_⟩
        by_cases hqk : q < k
        ·exact g3 q hqk
        ·obtain rfl : q = k := by omega
         rw [HX.out]
         omega
       case measure => simp [intOf]; omega
     ·obtain rfl : k = f.f1.length := by omega
      go_wp2_with fail
      go_roundw
      case rel =>
       refine ⟨m, j + 1, by omega, rfl, by go_num, by omega, by omega, fun h => ?_, HB.out⟩
       obtain ⟨g1, g2, g3⟩ := HG2.out h
       intro q hq
       by_cases hqk : q < j
       ·exact HG.out g1 q hqk
       ·obtain rfl : q = j := by omega
        rw [HF.out]
        refine ⟨by omega, by omega, fun x hx => ?_⟩
        obtain ⟨i, hi, rfl⟩ := List.getElem_of_mem hx
        have := g3 i hi
        rwa [List.getD_eq_getElem?_getD, List.getElem?_eq_getElem hi] at this
      case measure => simp [intOf]; omega
  ·obtain rfl : j = ss.length := by omega
   by_cases hL : 2147483647 < n
   ·go_wp2_with (go_at_call 38; refine (over_any _ _).mono ?_; rintro e w2 ⟨rfl, rfl⟩; rw [decide_eq_true hL])
    go_ret
    exact ⟨true, rfl, HB.out, fun h => by cases h⟩
   ·go_wp2_with (go_at_call 38; refine (over_any _ _).mono ?_; rintro e w2 ⟨rfl, rfl⟩; rw [decide_eq_false hL])
    go_ret
    refine ⟨false, rfl, HB.out, fun _ => ⟨by omega, fun f hf => ?_⟩⟩
    obtain ⟨i, hi, rfl⟩ := List.getElem_of_mem hf
    have := HG.out (by omega) i hi
    rwa [List.getD_eq_getElem?_getD, List.getElem?_eq_getElem hi] at this
end Go.Proofs.YtcbcacbbnojdjaaGreatDoor
