/-
  Part U of what the law's proof needs: walks of the program's functions and the plain laws of what they tell. No condition.
-/
import Derived.Test.YtcbcacbbnojdjaaDoorNgC
import Derived.Test.YtcbcacbbnojdjaaDoorNgS
namespace Go.Proofs.YtcbcacbbnojdjaaDoor.PSolveMonotone
open Go.RowKit Go.Proofs.YtcbcacbbnojdjaaDoorW.PrintWords Go.Proofs.YtcbcacbbnojdjaaDoorW.PrintLast Go.Proofs.YtcbcacbbnojdjaaDoorW.PrintMore
set_option linter.unusedVariables false
set_option linter.unusedSimpArgs false
def fugueref00_CopyInstr.f (k : Nat) (a0_0 : Int) (a0_1 : Int) (a0_2 : Int) (a0_3 : Int) (a0_4 : Int) (l0_5 : List Int) (l0_6 : List Int) : Option (Int × Int × Int × Int × Int × List Int × List Int) := (fugueref00_CopyInts.f k l0_5).bind fun t342 => ((fugueref00_CopyInts.f k l0_6).bind fun t345 => (some (a0_0, a0_1, a0_2, a0_3, a0_4, t342, t345)))
set_option maxHeartbeats 8000000 in
set_option maxRecDepth 100000 in
theorem fugueref00_CopyInstr.calls (k : Nat) (a0_0 : Int) (a0_1 : Int) (a0_2 : Int) (a0_3 : Int) (a0_4 : Int) (A0_5 : Option Addr) (c0_5 : Nat) (l0_5 : List Int) (A0_6 : Option Addr) (c0_6 : Nat) (l0_6 : List Int) (r1 : Int) (r2 : Int) (r3 : Int) (r4 : Int) (r5 : Int) (r6 : List Int) (r7 : List Int) (w : World) (hr0_5 : Kd.C (Kd.int .i64) w A0_5 l0_5.length l0_5) (hc0_5 : l0_5.length ≤ c0_5) (hr0_6 : Kd.C (Kd.int .i64) w A0_6 l0_6.length l0_6) (hc0_6 : l0_6.length ≤ c0_6) (h : fugueref00_CopyInstr.f k a0_0 a0_1 a0_2 a0_3 a0_4 l0_5 l0_6 = some (r1, r2, r3, r4, r5, r6, r7)) :
    Calls Tryd.prog 29 #[.agg #[.int .i64 a0_0, .int .i64 a0_1, .int .i64 a0_2, .int .i64 a0_3, .int .i64 a0_4, .slice A0_5 l0_5.length c0_5, .slice A0_6 l0_6.length c0_6]] w fun e w' => ∃ v5_ v6_ : Value, e = .returned (.agg #[.int .i64 r1, .int .i64 r2, .int .i64 r3, .int .i64 r4, .int .i64 r5, v5_, v6_]) ∧ Kd.R (Kd.int .i64) 3 w' w.heap.size (fun k_ => some k_ ≠ (v6_ : Value).ownBlock) v5_ r6 ∧ Kd.R (Kd.int .i64) 3 w' w.heap.size (fun k_ => some k_ ≠ (v5_ : Value).ownBlock) v6_ r7 ∧ Below w.heap.size w w' := by
  have hu52 := Tryd.underlying52
  have HR0_5 := Aside0.mk hr0_5
  have HC0_5 := Aside0.mk hc0_5
  clear hr0_5 hc0_5
  have HR0_6 := Aside0.mk hr0_6
  have HC0_6 := Aside0.mk hc0_6
  clear hr0_6 hc0_6
  have HB := Aside0.mk (Below.refl w.heap.size w)
  have H : ((fugueref00_CopyInts.f k l0_5).bind fun t342 => ((fugueref00_CopyInts.f k l0_6).bind fun t345 => (some (a0_0, a0_1, a0_2, a0_3, a0_4, t342, t345)))) = some (r1, r2, r3, r4, r5, r6, r7) := h
  clear h
  replace H := Option.bind_eq_some_iff.mp H
  obtain ⟨t342, A20, H⟩ := H
  replace H : ((fugueref00_CopyInts.f k l0_6).bind fun t345 => (some (a0_0, a0_1, a0_2, a0_3, a0_4, t342, t345))) = some (r1, r2, r3, r4, r5, r6, r7) := H
  have A2 := Aside0.mk A20
  clear A20
  replace H := Option.bind_eq_some_iff.mp H
  obtain ⟨t345, A30, H⟩ := H
  replace H : (some (a0_0, a0_1, a0_2, a0_3, a0_4, t342, t345)) = some (r1, r2, r3, r4, r5, r6, r7) := H
  have A3 := Aside0.mk A30
  clear A30
  simp only [Option.some.injEq, Prod.mk.injEq] at H
  obtain ⟨rfl, rfl, rfl, rfl, rfl, rfl, rfl⟩ := H
  go_enter Tryd.func29, Tryd.ntmps29
  go_wp2_with (first | ((with_reducible refine gate_dst (N := 1) rfl ?_); refine box_event ?hg (N := 1) ?hd (cs := #[.int .i64 a0_0, .int .i64 a0_1, .int .i64 a0_2, .int .i64 a0_3, .int .i64 a0_4, .slice A0_5 l0_5.length c0_5, .slice A0_6 l0_6.length c0_6]) (t := 52) ?hr ?_; (case hd => rfl); (case hg => rfl); (case hr => first | (go_simp; done) | (go_simp; rfl)); intro gb340 hg w4 hbox hb; have n0_ := Aside0.mk (below_step (by repeat (first | (with_reducible first | exact HB.out | apply below_alloc | apply pw_below_drewN | apply below_drew1) | exact HB.out)) hb); have n1_ := Aside0.mk (hbox); have n2_ := Aside0.mk ((by rw [hg]; exact (below_size (by repeat (first | (with_reducible first | exact HB.out | apply below_alloc | apply pw_below_drewN | apply below_drew1) | exact HB.out))) : w.heap.size ≤ gb340)); have n3_ := Aside0.mk ((by rw [hg]; exact (below_size (by repeat (first | (with_reducible first | exact HB.out | apply below_alloc | apply pw_below_drewN | apply below_drew1) | exact HB.out))) : w.heap.size ≤ gb340)); clear HB; have HB := n0_; have BK340 := n1_; have GW340 := n2_; have GE340 := n3_; clear n0_ n1_ n2_ n3_; clear hb hbox hg) | ((with_reducible refine gate_dst (N := 2) rfl ?_); refine box_event ?hg (N := 2) ?hd (cs := #[.int .i64 0, .int .i64 0, .int .i64 0, .int .i64 0, .int .i64 0, .slice none 0 0, .slice none 0 0]) (t := 52) ?hr ?_; (case hd => rfl); (case hg => rfl); (case hr => first | (go_simp; done) | (go_simp; rfl)); intro gb341 hg w5 hbox hb; have n0_ := Aside0.mk (blk_below (g := gb340) (o := .cells #[.int .i64 a0_0, .int .i64 a0_1, .int .i64 a0_2, .int .i64 a0_3, .int .i64 a0_4, .slice A0_5 l0_5.length c0_5, .slice A0_6 l0_6.length c0_6] 52 (0, 0)) (by (with_reducible repeat (first | refine blk_drewN ?_ _ | refine blk_drew ?_ | refine blk_alloc ?_ _)); exact BK340.out) hb); have n1_ := Aside0.mk (below_step (by repeat (first | (with_reducible first | exact HB.out | apply below_alloc | apply pw_below_drewN | apply below_drew1 | refine below_set ?_ GE340.out) | exact HB.out)) hb); have n2_ := Aside0.mk (hbox); have n3_ := Aside0.mk ((by rw [hg]; exact (below_size (by repeat (first | (with_reducible first | exact HB.out | apply below_alloc | apply pw_below_drewN | apply below_drew1 | refine below_set ?_ GE340.out) | exact HB.out))) : w.heap.size ≤ gb341)); have n4_ := Aside0.mk ((by rw [hg]; exact (below_size (by repeat (first | (with_reducible first | exact HB.out | apply below_alloc | apply pw_below_drewN | apply below_drew1 | refine below_set ?_ GE340.out) | exact HB.out))) : w.heap.size ≤ gb341)); have n5_ := Aside0.mk ((by rw [hg]; exact Nat.ne_of_lt (blk_lt (g := gb340) (o := .cells #[.int .i64 a0_0, .int .i64 a0_1, .int .i64 a0_2, .int .i64 a0_3, .int .i64 a0_4, .slice A0_5 l0_5.length c0_5, .slice A0_6 l0_6.length c0_6] 52 (0, 0)) (by (with_reducible repeat (first | refine blk_drewN ?_ _ | refine blk_drew ?_ | refine blk_alloc ?_ _)); exact BK340.out)) : gb340 ≠ gb341)); have n6_ := Aside0.mk ((by rw [hg]; exact Nat.ne_of_gt (blk_lt (g := gb340) (o := .cells #[.int .i64 a0_0, .int .i64 a0_1, .int .i64 a0_2, .int .i64 a0_3, .int .i64 a0_4, .slice A0_5 l0_5.length c0_5, .slice A0_6 l0_6.length c0_6] 52 (0, 0)) (by (with_reducible repeat (first | refine blk_drewN ?_ _ | refine blk_drew ?_ | refine blk_alloc ?_ _)); exact BK340.out)) : gb341 ≠ gb340)); clear BK340; clear HB; have BK340 := n0_; have HB := n1_; have BK341 := n2_; have GW341 := n3_; have GE341 := n4_; have NB340_341 := n5_; have NB341_340 := n6_; clear n0_ n1_ n2_ n3_ n4_ n5_ n6_; clear hb hbox hg; have hnb6 := NB340_341.out; have hnc6 := NB341_340.out; have hcz7_0 : w5.cell? ⟨gb340, 0, none⟩ = some (.int .i64 a0_0) := (blk_cell BK340.out 0).trans rfl; have hcz7_1 : w5.cell? ⟨gb340, 1, none⟩ = some (.int .i64 a0_1) := (blk_cell BK340.out 1).trans rfl; have hcz7_2 : w5.cell? ⟨gb340, 2, none⟩ = some (.int .i64 a0_2) := (blk_cell BK340.out 2).trans rfl; have hcz7_3 : w5.cell? ⟨gb340, 3, none⟩ = some (.int .i64 a0_3) := (blk_cell BK340.out 3).trans rfl; have hcz7_4 : w5.cell? ⟨gb340, 4, none⟩ = some (.int .i64 a0_4) := (blk_cell BK340.out 4).trans rfl; have hcz7_5 : w5.cell? ⟨gb340, 5, none⟩ = some (.slice A0_5 l0_5.length c0_5) := (blk_cell BK340.out 5).trans rfl; have hcz7_6 : w5.cell? ⟨gb340, 6, none⟩ = some (.slice A0_6 l0_6.length c0_6) := (blk_cell BK340.out 6).trans rfl; have hfz7_0 := blk_frozen BK340.out 0; have hfz7_1 := blk_frozen BK340.out 1; have hfz7_2 := blk_frozen BK340.out 2; have hfz7_3 := blk_frozen BK340.out 3; have hfz7_4 := blk_frozen BK340.out 4; have hfz7_5 := blk_frozen BK340.out 5; have hfz7_6 := blk_frozen BK340.out 6) | ((with_reducible refine gate_callee (f := 35) rfl ?_); refine goesL_ (some 5) rfl rfl Tryd.func35 (by kernel_rfl) rfl #[.slice A0_5 l0_5.length c0_5] rfl (by (try simp only [List.map_toArray, List.map_cons, List.map_nil]); first | done | rfl | (simp only [List.length_drop, List.length_take]; rfl)) ?_; (with_reducible refine (fugueref00_CopyInts.calls k _ _ l0_5 t342 _ ?side1 ?side2 A2.out).mono ?_); (case side1 => repeat (first | exact (Kd.C_below HR0_5.out HB.out) | (with_reducible refine Kd.C_alloc ?_ _) | (with_reducible refine Kd.C_drewN ?_ _) | (with_reducible refine Kd.C_drew ?_))); (case side2 => exact HC0_5.out); rintro e w8 ⟨v343, rfl, ho0, hb⟩; refine ⟨_, rfl, ?_⟩; have n0_ := Aside0.mk (Kd.R_lower ho0 (below_size (by repeat (first | (with_reducible first | exact HB.out | apply below_alloc | apply pw_below_drewN | apply below_drew1 | refine below_set ?_ GE340.out | refine below_set ?_ GE341.out) | exact HB.out)))); have n1_ := Aside0.mk (blk_below (g := gb340) (o := .cells #[.int .i64 a0_0, .int .i64 a0_1, .int .i64 a0_2, .int .i64 a0_3, .int .i64 a0_4, .slice A0_5 l0_5.length c0_5, .slice A0_6 l0_6.length c0_6] 52 (0, 0)) (by (with_reducible repeat (first | refine blk_drewN ?_ _ | refine blk_drew ?_ | refine blk_alloc ?_ _)); exact BK340.out) hb); have n2_ := Aside0.mk (blk_below (g := gb341) (o := .cells #[.int .i64 0, .int .i64 0, .int .i64 0, .int .i64 0, .int .i64 0, .slice none 0 0, .slice none 0 0] 52 (0, 0)) (by (with_reducible repeat (first | refine blk_drewN ?_ _ | refine blk_drew ?_ | refine blk_alloc ?_ _)); exact BK341.out) hb); have n3_ := Aside0.mk (below_step (by repeat (first | (with_reducible first | exact HB.out | apply below_alloc | apply pw_below_drewN | apply below_drew1 | refine below_set ?_ GE340.out | refine below_set ?_ GE341.out) | exact HB.out)) hb); clear BK340; clear BK341; clear HB; have HO344 := n0_; have BK340 := n1_; have BK341 := n2_; have HB := n3_; clear n0_ n1_ n2_ n3_; (try clear hb); (try clear hb2); (try clear hk); (try clear hi); (try clear ho0); obtain ⟨Ao9, co9, eo9⟩ := Kd.R_slice HO344.out; subst eo9; have hcz10_0 : w8.cell? ⟨gb340, 0, none⟩ = some (.int .i64 a0_0) := (blk_cell BK340.out 0).trans rfl; have hcz10_1 : w8.cell? ⟨gb340, 1, none⟩ = some (.int .i64 a0_1) := (blk_cell BK340.out 1).trans rfl; have hcz10_2 : w8.cell? ⟨gb340, 2, none⟩ = some (.int .i64 a0_2) := (blk_cell BK340.out 2).trans rfl; have hcz10_3 : w8.cell? ⟨gb340, 3, none⟩ = some (.int .i64 a0_3) := (blk_cell BK340.out 3).trans rfl; have hcz10_4 : w8.cell? ⟨gb340, 4, none⟩ = some (.int .i64 a0_4) := (blk_cell BK340.out 4).trans rfl; have hcz10_5 : w8.cell? ⟨gb340, 5, none⟩ = some (.slice A0_5 l0_5.length c0_5) := (blk_cell BK340.out 5).trans rfl; have hcz10_6 : w8.cell? ⟨gb340, 6, none⟩ = some (.slice A0_6 l0_6.length c0_6) := (blk_cell BK340.out 6).trans rfl; have hfz10_0 := blk_frozen BK340.out 0; have hfz10_1 := blk_frozen BK340.out 1; have hfz10_2 := blk_frozen BK340.out 2; have hfz10_3 := blk_frozen BK340.out 3; have hfz10_4 := blk_frozen BK340.out 4; have hfz10_5 := blk_frozen BK340.out 5; have hfz10_6 := blk_frozen BK340.out 6) | ((with_reducible refine gate_callee (f := 35) rfl ?_); refine goesL_ (some 9) rfl rfl Tryd.func35 (by kernel_rfl) rfl #[.slice A0_6 l0_6.length c0_6] rfl (by (try simp only [List.map_toArray, List.map_cons, List.map_nil]); first | done | rfl | (simp only [List.length_drop, List.length_take]; rfl)) ?_; (with_reducible refine (fugueref00_CopyInts.calls k _ _ l0_6 t345 _ ?side1 ?side2 A3.out).mono ?_); (case side1 => exact Kd.C_below HR0_6.out (by repeat (first | (with_reducible first | exact HB.out | apply below_alloc | apply pw_below_drewN | apply below_drew1 | refine below_set ?_ GE340.out | refine below_set ?_ GE341.out) | exact HB.out))); (case side2 => exact HC0_6.out); rintro e w11 ⟨v346, rfl, ho0, hb⟩; refine ⟨_, rfl, ?_⟩; have n0_ := Aside0.mk (Kd.R_elder' (by (with_reducible repeat (first | apply Kd.R_alloc | apply Kd.R_drewN | apply Kd.R_drew)); exact (Kd.R_mono (Kd.R_far (p := ⟨gb340, 5, none⟩) (Kd.R_types HO344.out BK340.out (by decide)) (fun _ hk => hk.2) (.slice Ao9 t342.length co9)) (fun _ h_ => h_.1))) (Kd.R_base ho0) hb); have n1_ := Aside0.mk (Kd.R_lower (Kd.R_new' ho0 (Kd.R_lt (by (with_reducible repeat (first | apply Kd.R_alloc | apply Kd.R_drewN | apply Kd.R_drew)); exact (Kd.R_mono (Kd.R_far (p := ⟨gb340, 5, none⟩) (Kd.R_types HO344.out BK340.out (by decide)) (fun _ hk => hk.2) (.slice Ao9 t342.length co9)) (fun _ h_ => h_.1))))) (below_size (by repeat (first | (with_reducible first | exact HB.out | apply below_alloc | apply pw_below_drewN | apply below_drew1 | refine below_set ?_ GE340.out | refine below_set ?_ GE341.out) | exact HB.out)))); have n2_ := Aside0.mk (blk_below (g := gb340) (o := .cells #[.int .i64 a0_0, .int .i64 a0_1, .int .i64 a0_2, .int .i64 a0_3, .int .i64 a0_4, .slice Ao9 t342.length co9, .slice A0_6 l0_6.length c0_6] 52 (0, 0)) (by (with_reducible repeat (first | refine blk_drewN ?_ _ | refine blk_drew ?_ | refine blk_alloc ?_ _)); refine blk_put (cs := #[.int .i64 a0_0, .int .i64 a0_1, .int .i64 a0_2, .int .i64 a0_3, .int .i64 a0_4, .slice A0_5 l0_5.length c0_5, .slice A0_6 l0_6.length c0_6]) ?_ 5 _ rfl; (with_reducible repeat (first | refine blk_drewN ?_ _ | refine blk_drew ?_ | refine blk_alloc ?_ _)); exact BK340.out) hb); have n3_ := Aside0.mk (blk_below (g := gb341) (o := .cells #[.int .i64 0, .int .i64 0, .int .i64 0, .int .i64 0, .int .i64 0, .slice none 0 0, .slice none 0 0] 52 (0, 0)) (by (with_reducible repeat (first | refine blk_drewN ?_ _ | refine blk_drew ?_ | refine blk_alloc ?_ _)); refine blk_far ?_ NB341_340.out _; (with_reducible repeat (first | refine blk_drewN ?_ _ | refine blk_drew ?_ | refine blk_alloc ?_ _)); exact BK341.out) hb); have n4_ := Aside0.mk (below_step (by repeat (first | (with_reducible first | exact HB.out | apply below_alloc | apply pw_below_drewN | apply below_drew1 | refine below_set ?_ GE340.out | refine below_set ?_ GE341.out) | exact HB.out)) hb); clear HO344; clear BK340; clear BK341; clear HB; have HO344 := n0_; have HO347 := n1_; have BK340 := n2_; have BK341 := n3_; have HB := n4_; clear n0_ n1_ n2_ n3_ n4_; (try clear hb); (try clear hb2); (try clear hk); (try clear hi); (try clear ho0); obtain ⟨Ao12, co12, eo12⟩ := Kd.R_slice HO347.out; subst eo12; have hcz13_0 : w11.cell? ⟨gb340, 0, none⟩ = some (.int .i64 a0_0) := (blk_cell BK340.out 0).trans rfl; have hcz13_1 : w11.cell? ⟨gb340, 1, none⟩ = some (.int .i64 a0_1) := (blk_cell BK340.out 1).trans rfl; have hcz13_2 : w11.cell? ⟨gb340, 2, none⟩ = some (.int .i64 a0_2) := (blk_cell BK340.out 2).trans rfl; have hcz13_3 : w11.cell? ⟨gb340, 3, none⟩ = some (.int .i64 a0_3) := (blk_cell BK340.out 3).trans rfl; have hcz13_4 : w11.cell? ⟨gb340, 4, none⟩ = some (.int .i64 a0_4) := (blk_cell BK340.out 4).trans rfl; have hcz13_5 : w11.cell? ⟨gb340, 5, none⟩ = some (.slice Ao9 t342.length co9) := (blk_cell BK340.out 5).trans rfl; have hcz13_6 : w11.cell? ⟨gb340, 6, none⟩ = some (.slice A0_6 l0_6.length c0_6) := (blk_cell BK340.out 6).trans rfl; have hfz13_0 := blk_frozen BK340.out 0; have hfz13_1 := blk_frozen BK340.out 1; have hfz13_2 := blk_frozen BK340.out 2; have hfz13_3 := blk_frozen BK340.out 3; have hfz13_4 := blk_frozen BK340.out 4; have hfz13_5 := blk_frozen BK340.out 5; have hfz13_6 := blk_frozen BK340.out 6; have hcz14_0 : w11.cell? ⟨gb341, 0, none⟩ = some (.int .i64 0) := (blk_cell BK341.out 0).trans rfl; have hcz14_1 : w11.cell? ⟨gb341, 1, none⟩ = some (.int .i64 0) := (blk_cell BK341.out 1).trans rfl; have hcz14_2 : w11.cell? ⟨gb341, 2, none⟩ = some (.int .i64 0) := (blk_cell BK341.out 2).trans rfl; have hcz14_3 : w11.cell? ⟨gb341, 3, none⟩ = some (.int .i64 0) := (blk_cell BK341.out 3).trans rfl; have hcz14_4 : w11.cell? ⟨gb341, 4, none⟩ = some (.int .i64 0) := (blk_cell BK341.out 4).trans rfl; have hcz14_5 : w11.cell? ⟨gb341, 5, none⟩ = some (.slice none 0 0) := (blk_cell BK341.out 5).trans rfl; have hcz14_6 : w11.cell? ⟨gb341, 6, none⟩ = some (.slice none 0 0) := (blk_cell BK341.out 6).trans rfl; have hfz14_0 := blk_frozen BK341.out 0; have hfz14_1 := blk_frozen BK341.out 1; have hfz14_2 := blk_frozen BK341.out 2; have hfz14_3 := blk_frozen BK341.out 3; have hfz14_4 := blk_frozen BK341.out 4; have hfz14_5 := blk_frozen BK341.out 5; have hfz14_6 := blk_frozen BK341.out 6))
  refine bodyPost_ret (results_cell_row rfl _ _ gb341 52 #[.int .i64 a0_0, .int .i64 a0_1, .int .i64 a0_2, .int .i64 a0_3, .int .i64 a0_4, .slice Ao9 t342.length co9, .slice Ao12 t345.length co12] (0, 0) _ rfl (by (with_reducible repeat (first | refine blk_drewN ?_ _ | refine blk_drew ?_ | refine blk_alloc ?_ _)); refine blk_put (cs := #[.int .i64 a0_0, .int .i64 a0_1, .int .i64 a0_2, .int .i64 a0_3, .int .i64 a0_4, .slice Ao9 t342.length co9, .slice none 0 0]) ?_ 6 _ rfl; (with_reducible repeat (first | refine blk_drewN ?_ _ | refine blk_drew ?_ | refine blk_alloc ?_ _)); refine blk_put (cs := #[.int .i64 a0_0, .int .i64 a0_1, .int .i64 a0_2, .int .i64 a0_3, .int .i64 a0_4, .slice none 0 0, .slice none 0 0]) ?_ 5 _ rfl; (with_reducible repeat (first | refine blk_drewN ?_ _ | refine blk_drew ?_ | refine blk_alloc ?_ _)); refine blk_put (cs := #[.int .i64 a0_0, .int .i64 a0_1, .int .i64 a0_2, .int .i64 a0_3, .int .i64 0, .slice none 0 0, .slice none 0 0]) ?_ 4 _ rfl; (with_reducible repeat (first | refine blk_drewN ?_ _ | refine blk_drew ?_ | refine blk_alloc ?_ _)); refine blk_put (cs := #[.int .i64 a0_0, .int .i64 a0_1, .int .i64 a0_2, .int .i64 0, .int .i64 0, .slice none 0 0, .slice none 0 0]) ?_ 3 _ rfl; (with_reducible repeat (first | refine blk_drewN ?_ _ | refine blk_drew ?_ | refine blk_alloc ?_ _)); refine blk_put (cs := #[.int .i64 a0_0, .int .i64 a0_1, .int .i64 0, .int .i64 0, .int .i64 0, .slice none 0 0, .slice none 0 0]) ?_ 2 _ rfl; (with_reducible repeat (first | refine blk_drewN ?_ _ | refine blk_drew ?_ | refine blk_alloc ?_ _)); refine blk_put (cs := #[.int .i64 a0_0, .int .i64 0, .int .i64 0, .int .i64 0, .int .i64 0, .slice none 0 0, .slice none 0 0]) ?_ 1 _ rfl; (with_reducible repeat (first | refine blk_drewN ?_ _ | refine blk_drew ?_ | refine blk_alloc ?_ _)); refine blk_put (cs := #[.int .i64 0, .int .i64 0, .int .i64 0, .int .i64 0, .int .i64 0, .slice none 0 0, .slice none 0 0]) ?_ 0 _ rfl; (with_reducible repeat (first | refine blk_drewN ?_ _ | refine blk_drew ?_ | refine blk_alloc ?_ _)); refine blk_far ?_ NB341_340.out _; (with_reducible repeat (first | refine blk_drewN ?_ _ | refine blk_drew ?_ | refine blk_alloc ?_ _)); exact BK341.out) Tryd.underlying52 rfl (by kernel_rfl)) rfl ?_
  exact ⟨_, _, by first | rfl | (simp [errW_none, errW_some] <;> rfl) | (simp [*, errW_none, errW_some] <;> rfl), by (with_reducible repeat (first | apply Kd.R_alloc | apply Kd.R_drewN | apply Kd.R_drew)); exact Kd.R_mono (Kd.R_far (p := ⟨gb341, 6, none⟩) (Kd.R_far (p := ⟨gb341, 5, none⟩) (Kd.R_far (p := ⟨gb341, 4, none⟩) (Kd.R_far (p := ⟨gb341, 3, none⟩) (Kd.R_far (p := ⟨gb341, 2, none⟩) (Kd.R_far (p := ⟨gb341, 1, none⟩) (Kd.R_far (p := ⟨gb341, 0, none⟩) (Kd.R_far (p := ⟨gb340, 6, none⟩) (Kd.R_types (Kd.R_types HO344.out BK340.out (by decide)) BK341.out (by decide)) (fun _ hk => hk.1.2) (.slice Ao12 t345.length co12)) (fun _ hk => hk.2) (.int .i64 a0_0)) (fun _ hk => hk.2) (.int .i64 a0_1)) (fun _ hk => hk.2) (.int .i64 a0_2)) (fun _ hk => hk.2) (.int .i64 a0_3)) (fun _ hk => hk.2) (.int .i64 a0_4)) (fun _ hk => hk.2) (.slice Ao9 t342.length co9)) (fun _ hk => hk.2) (.slice Ao12 t345.length co12)) (fun _ hk => hk.1.1.2), by (with_reducible repeat (first | apply Kd.R_alloc | apply Kd.R_drewN | apply Kd.R_drew)); exact Kd.R_mono (Kd.R_far (p := ⟨gb341, 6, none⟩) (Kd.R_far (p := ⟨gb341, 5, none⟩) (Kd.R_far (p := ⟨gb341, 4, none⟩) (Kd.R_far (p := ⟨gb341, 3, none⟩) (Kd.R_far (p := ⟨gb341, 2, none⟩) (Kd.R_far (p := ⟨gb341, 1, none⟩) (Kd.R_far (p := ⟨gb341, 0, none⟩) (Kd.R_far (p := ⟨gb340, 6, none⟩) (Kd.R_types (Kd.R_types HO347.out BK340.out (by decide)) BK341.out (by decide)) (fun _ hk => hk.1.2) (.slice Ao12 t345.length co12)) (fun _ hk => hk.2) (.int .i64 a0_0)) (fun _ hk => hk.2) (.int .i64 a0_1)) (fun _ hk => hk.2) (.int .i64 a0_2)) (fun _ hk => hk.2) (.int .i64 a0_3)) (fun _ hk => hk.2) (.int .i64 a0_4)) (fun _ hk => hk.2) (.slice Ao9 t342.length co9)) (fun _ hk => hk.2) (.slice Ao12 t345.length co12)) (fun _ hk => hk.1.1.2), by repeat (first | (with_reducible first | exact HB.out | apply below_alloc | apply pw_below_drewN | apply below_drew1 | refine below_set ?_ GE340.out | refine below_set ?_ GE341.out) | exact HB.out)⟩
def fugueref00_CopyCode.l0 : Nat → List (S52) → List (S52) → Int → Option ((List (S52)))
  | 0, _, _, _ => none
  | k + 1, x0, x3, x4 => if x4 < (x0.length : Int) then (if 0 ≤ x4 then ((fugueref00_CopyInstr.f k ((rd_T52 x0 x4).f0) ((rd_T52 x0 x4).f1) ((rd_T52 x0 x4).f2) ((rd_T52 x0 x4).f3) ((rd_T52 x0 x4).f4) ((rd_T52 x0 x4).f5) ((rd_T52 x0 x4).f6)).bind fun bt349 => (if x3.length < 1599289640401 then (fugueref00_CopyCode.l0 k x0 (x3 ++ [(⟨bt349.1, bt349.2.1, bt349.2.2.1, bt349.2.2.2.1, bt349.2.2.2.2.1, bt349.2.2.2.2.2.1, bt349.2.2.2.2.2.2⟩ : S52)]) (wrap64 (x4 + 1))) else (none))) else (none)) else (some x3)
def fugueref00_CopyCode.f (k : Nat) (l0 : List (S52)) : Option ((List (S52))) := fugueref00_CopyCode.l0 k l0 ([] : List (S52)) 0
set_option maxHeartbeats 8000000 in
set_option maxRecDepth 100000 in
theorem fugueref00_CopyCode.calls (k : Nat) (A0 : Option Addr) (c0 : Nat) (l0 : List (S52)) (r : List (S52)) (w : World) (hr0 : Kd.C k52 w A0 l0.length l0) (hc0 : l0.length ≤ c0) (h : fugueref00_CopyCode.f k l0 = some r) :
    Calls Tryd.prog 13 #[.slice A0 l0.length c0] w fun e w' => ∃ v0_ : Value, e = .returned (v0_) ∧ Kd.S k52 52 w' w.heap.size (fun _ => True) v0_ r ∧ Below w.heap.size w w' := by
  have hu52 := Tryd.underlying52
  have HR0 := Aside0.mk hr0
  have HC0 := Aside0.mk hc0
  clear hr0 hc0
  have HB := Aside0.mk (Below.refl w.heap.size w)
  have H : (fugueref00_CopyCode.l0 k l0 ([] : List (S52)) 0) = some r := h
  clear h
  have H' := Aside0.mk H
  clear H
  go_enter Tryd.func13, Tryd.ntmps13
  go_wp2
  go_loopg [3, 4] k (fun kq v3 v4 w' => ∃ (x3_1 : List (S52)) (x4_1 : Int), v4 = .int .i64 x4_1 ∧ Aside0 (fugueref00_CopyCode.l0 kq l0 x3_1 x4_1 = some r) ∧ Aside0 (kq ≤ k) ∧ Aside0 (Kd.S k52 52 w' w.heap.size (fun _ => True) v3 x3_1) ∧ Aside0 (Below w.heap.size w w'))
  case atStart => exact ⟨(([] : List (S52))), (0), (by first | rfl | (simp; done) | (simp [*]; done)), H', ⟨Nat.le_refl _⟩, ⟨by first | exact Kd.S_nil _ _ _ _ _ | exact Kd.N_nil _ _ _ _ _ | exact Kd.V_nil _ _ _ _ _ | exact Kd.Q_nil _ _ _ _ _ | exact Kd.R_nil _ _ _ _ _⟩, ⟨by repeat (first | (with_reducible first | exact HB.out | apply below_alloc | apply pw_below_drewN | apply below_drew1) | exact HB.out)⟩⟩
  case round =>
    clear H'
    try clear c1
    obtain ⟨x3_1, x4_1, rfl, HA, HK1, HO_3, HB⟩ := hrel
    cases gk with
    | zero => exact absurd HA.out (by simp [fugueref00_CopyCode.l0])
    | succ k1 =>
      have H := HA.out
      clear HA
      simp only [fugueref00_CopyCode.l0] at H
      by_cases c2 : x4_1 < (l0.length : Int)
      · rw [if_pos c2] at H
        have c2b0 : decide (x4_1 < (l0.length : Int)) = true := decide_eq_true c2
        clear c2
        by_cases c3 : 0 ≤ x4_1
        · rw [if_pos c3] at H
          have c3b0 : decide (0 ≤ x4_1) = true := decide_eq_true c3
          clear c3
          replace H := Option.bind_eq_some_iff.mp H
          obtain ⟨⟨t349, t350, t351, t352, t353, t354, t357⟩, A40, H⟩ := H
          replace H : (if x3_1.length < 1599289640401 then (fugueref00_CopyCode.l0 k1 l0 (x3_1 ++ [(⟨t349, t350, t351, t352, t353, t354, t357⟩ : S52)]) (wrap64 (x4_1 + 1))) else (none)) = some r := H
          have A4 := Aside0.mk A40
          clear A40
          by_cases c5 : x3_1.length < 1599289640401
          · rw [if_pos c5] at H
            have LMc5 := Aside0.mk c5
            clear c5
            obtain ⟨y361, hy361⟩ : ∃ y_ : List (S52), y_ = (x3_1 ++ [(⟨t349, t350, t351, t352, t353, t354, t357⟩ : S52)]) := ⟨_, rfl⟩
            replace H : (fugueref00_CopyCode.l0 k1 l0 y361 (wrap64 (x4_1 + 1))) = some r := by first | (rw [hy361]; with_reducible exact H) | (have H2_ := (Option.bind_some _ _).symm.trans H; rw [hy361]; with_reducible exact H2_) | (have H2_ := (Option.bind_some _ _).symm.trans H; with_reducible exact H2_) | with_reducible exact H | (rw [hy361]; exact H) | exact H
            have Ny361 := Aside0.mk hy361
            clear hy361
            have H' := Aside0.mk H
            clear H
            have p348 : 0 ≤ (x4_1 : Int) := of_decide_eq_true (by first | (with_reducible assumption) | assumption)
            have q348 : x4_1 < (l0.length : Int) := of_decide_eq_true (by first | (with_reducible assumption) | assumption)
            obtain ⟨ad348, A348_5, c348_5, A348_6, c348_6, e348, hx348_0, hx348_1, hx348_2, hx348_3, hx348_4, hx348_5, hx348_6, hl348_5, hi348_5, hl348_6, hi348_6⟩ := at_T52 HR0.out x4_1 p348 q348
            cases e348
            replace hx348_0 := (HB.out.cell (World.block_lt_of_cell? w _ hx348_0)).trans hx348_0
            replace hx348_1 := (HB.out.cell (World.block_lt_of_cell? w _ hx348_1)).trans hx348_1
            replace hx348_2 := (HB.out.cell (World.block_lt_of_cell? w _ hx348_2)).trans hx348_2
            replace hx348_3 := (HB.out.cell (World.block_lt_of_cell? w _ hx348_3)).trans hx348_3
            replace hx348_4 := (HB.out.cell (World.block_lt_of_cell? w _ hx348_4)).trans hx348_4
            replace hx348_5 := (HB.out.cell (World.block_lt_of_cell? w _ hx348_5)).trans hx348_5
            replace hx348_6 := (HB.out.cell (World.block_lt_of_cell? w _ hx348_6)).trans hx348_6
            have HR348_5 := Aside0.mk hi348_5
            have HC348_5 := Aside0.mk hl348_5
            clear hi348_5 hl348_5
            have HR348_6 := Aside0.mk hi348_6
            have HC348_6 := Aside0.mk hl348_6
            clear hi348_6 hl348_6
            replace p348 := eq_true p348
            replace q348 := eq_true q348
            go_wp2_with (first | ((with_reducible refine gate_callee (f := 29) rfl ?_); refine goesL_ (some 16) rfl rfl Tryd.func29 (by kernel_rfl) rfl #[.agg #[.int .i64 ((rd_T52 l0 x4_1).f0), .int .i64 ((rd_T52 l0 x4_1).f1), .int .i64 ((rd_T52 l0 x4_1).f2), .int .i64 ((rd_T52 l0 x4_1).f3), .int .i64 ((rd_T52 l0 x4_1).f4), .slice A348_5 ((rd_T52 l0 x4_1).f5).length c348_5, .slice A348_6 ((rd_T52 l0 x4_1).f6).length c348_6]] rfl (by (try simp only [List.map_toArray, List.map_cons, List.map_nil]); first | done | rfl | (simp only [List.length_drop, List.length_take]; rfl)) ?_; (with_reducible refine (fugueref00_CopyInstr.calls k1 ((rd_T52 l0 x4_1).f0) ((rd_T52 l0 x4_1).f1) ((rd_T52 l0 x4_1).f2) ((rd_T52 l0 x4_1).f3) ((rd_T52 l0 x4_1).f4) _ _ ((rd_T52 l0 x4_1).f5) _ _ ((rd_T52 l0 x4_1).f6) t349 t350 t351 t352 t353 t354 t357 _ ?side1 ?side2 ?side3 ?side4 A4.out).mono ?_); (case side1 => repeat (first | exact (Kd.C_below HR348_5.out HB.out) | (with_reducible refine Kd.C_alloc ?_ _) | (with_reducible refine Kd.C_drewN ?_ _) | (with_reducible refine Kd.C_drew ?_))); (case side2 => exact HC348_5.out); (case side3 => repeat (first | exact (Kd.C_below HR348_6.out HB.out) | (with_reducible refine Kd.C_alloc ?_ _) | (with_reducible refine Kd.C_drewN ?_ _) | (with_reducible refine Kd.C_drew ?_))); (case side4 => exact HC348_6.out); rintro e w6 ⟨v355, v358, rfl, ho0, ho1, hb⟩; refine ⟨_, rfl, ?_⟩; have n0_ := Aside0.mk (Kd.S_mono (Kd.S_told (Kd.S_told (Kd.S_old (by (with_reducible repeat (first | apply Kd.S_alloc | apply Kd.S_drewN | apply Kd.S_drew)); exact HO_3.out) hb) (Kd.R_base ho0)) (Kd.R_base ho1)) (fun _ h_ => h_.1)); have n1_ := Aside0.mk (Kd.R_lower ho0 (below_size (by repeat (first | (with_reducible first | exact HB.out | apply below_alloc | apply pw_below_drewN | apply below_drew1) | exact HB.out)))); have n2_ := Aside0.mk (Kd.R_lower ho1 (below_size (by repeat (first | (with_reducible first | exact HB.out | apply below_alloc | apply pw_below_drewN | apply below_drew1) | exact HB.out)))); have n3_ := Aside0.mk (below_step (by repeat (first | (with_reducible first | exact HB.out | apply below_alloc | apply pw_below_drewN | apply below_drew1) | exact HB.out)) hb); clear HO_3; clear HB; have HO_3 := n0_; have HO356 := n1_; have HO359 := n2_; have HB := n3_; clear n0_ n1_ n2_ n3_; (try clear hb); (try clear hb2); (try clear hk); (try clear hi); (try clear ho0); (try clear ho1)) | ((with_reducible refine gate_dst (N := 5) rfl ?_); refine box_event ?hg (N := 5) ?hd (cs := #[.int .i64 0, .int .i64 0, .int .i64 0, .int .i64 0, .int .i64 0, .slice none 0 0, .slice none 0 0]) (t := 52) ?hr ?_; (case hd => rfl); (case hg => rfl); (case hr => first | (go_simp; done) | (go_simp; rfl)); intro gb360 hg w7 hbox hb; have n0_ := Aside0.mk (Kd.S_below (Kd.S_elderB (by (with_reducible repeat (first | apply Kd.S_alloc | apply Kd.S_drewN | apply Kd.S_drew)); exact HO_3.out) gb360 (Nat.le_of_eq hg.symm)) hb); have n1_ := Aside0.mk (Kd.R_below (by (with_reducible repeat (first | apply Kd.R_alloc | apply Kd.R_drewN | apply Kd.R_drew)); exact HO356.out) hb); have n2_ := Aside0.mk (Kd.R_below (by (with_reducible repeat (first | apply Kd.R_alloc | apply Kd.R_drewN | apply Kd.R_drew)); exact HO359.out) hb); have n3_ := Aside0.mk (below_step (by repeat (first | (with_reducible first | exact HB.out | apply below_alloc | apply pw_below_drewN | apply below_drew1) | exact HB.out)) hb); have n4_ := Aside0.mk (hbox); have n5_ := Aside0.mk ((by rw [hg]; exact (below_size (by repeat (first | (with_reducible first | exact HB.out | apply below_alloc | apply pw_below_drewN | apply below_drew1) | exact HB.out))) : w.heap.size ≤ gb360)); have n6_ := Aside0.mk ((by rw [hg]; exact (below_size (by repeat (first | (with_reducible first | exact HB.out | apply below_alloc | apply pw_below_drewN | apply below_drew1) | exact HB.out))) : w.heap.size ≤ gb360)); clear HO_3; clear HO356; clear HO359; clear HB; have HO_3 := n0_; have HO356 := n1_; have HO359 := n2_; have HB := n3_; have BK360 := n4_; have GW360 := n5_; have GE360 := n6_; clear n0_ n1_ n2_ n3_ n4_ n5_ n6_; clear hb hbox hg; have hcz8_0 : w7.cell? ⟨gb360, 0, none⟩ = some (.int .i64 0) := (blk_cell BK360.out 0).trans rfl; have hcz8_1 : w7.cell? ⟨gb360, 1, none⟩ = some (.int .i64 0) := (blk_cell BK360.out 1).trans rfl; have hcz8_2 : w7.cell? ⟨gb360, 2, none⟩ = some (.int .i64 0) := (blk_cell BK360.out 2).trans rfl; have hcz8_3 : w7.cell? ⟨gb360, 3, none⟩ = some (.int .i64 0) := (blk_cell BK360.out 3).trans rfl; have hcz8_4 : w7.cell? ⟨gb360, 4, none⟩ = some (.int .i64 0) := (blk_cell BK360.out 4).trans rfl; have hcz8_5 : w7.cell? ⟨gb360, 5, none⟩ = some (.slice none 0 0) := (blk_cell BK360.out 5).trans rfl; have hcz8_6 : w7.cell? ⟨gb360, 6, none⟩ = some (.slice none 0 0) := (blk_cell BK360.out 6).trans rfl; have hfz8_0 := blk_frozen BK360.out 0; have hfz8_1 := blk_frozen BK360.out 1; have hfz8_2 := blk_frozen BK360.out 2; have hfz8_3 := blk_frozen BK360.out 3; have hfz8_4 := blk_frozen BK360.out 4; have hfz8_5 := blk_frozen BK360.out 5; have hfz8_6 := blk_frozen BK360.out 6; obtain ⟨Ao9, co9, eo9⟩ := Kd.R_slice HO356.out; subst eo9; obtain ⟨Ao10, co10, eo10⟩ := Kd.R_slice HO359.out; subst eo10) | ((with_reducible refine gate_store (t := 52) (p := 5) rfl ?_); refine store_event (t := 52) (p := 5) (v := ?vo_w11) (w1 := (((((((w7.setCell ⟨gb360, 0, none⟩ (.int .i64 t349)).setCell ⟨gb360, 1, none⟩ (.int .i64 t350)).setCell ⟨gb360, 2, none⟩ (.int .i64 t351)).setCell ⟨gb360, 3, none⟩ (.int .i64 t352)).setCell ⟨gb360, 4, none⟩ (.int .i64 t353)).setCell ⟨gb360, 5, none⟩ (.slice Ao9 t354.length co9)).setCell ⟨gb360, 6, none⟩ (.slice Ao10 t357.length co10))) ?hg ?ho ?hn ?hr ?_; (case ho => rfl); (case hg => rfl); (case hn => rfl); (case hr => first | (go_simp; done) | (go_simp; rfl)); intro w11 hw; have n0_ : Aside0 (Kd.S k52 52 w11 w.heap.size (fun k_ => some k_ ≠ (.slice Ao9 t354.length co9 : Value).ownBlock ∧ some k_ ≠ (.slice Ao10 t357.length co10 : Value).ownBlock ∧ k_ ≠ gb360) u3 x3_1) := ⟨(by rw [hw]; exact (by (with_reducible repeat (first | apply Kd.S_alloc | apply Kd.S_drewN | apply Kd.S_drew)); exact Kd.S_mono (Kd.S_far (p := ⟨gb360, 6, none⟩) (Kd.S_far (p := ⟨gb360, 5, none⟩) (Kd.S_far (p := ⟨gb360, 4, none⟩) (Kd.S_far (p := ⟨gb360, 3, none⟩) (Kd.S_far (p := ⟨gb360, 2, none⟩) (Kd.S_far (p := ⟨gb360, 1, none⟩) (Kd.S_far (p := ⟨gb360, 0, none⟩) (Kd.S_mono HO_3.out (fun k_ hk => (⟨hk, hk.2⟩ : _ ∧ k_ ≠ gb360))) (fun _ hk => hk.2) (.int .i64 t349)) (fun _ hk => hk.2) (.int .i64 t350)) (fun _ hk => hk.2) (.int .i64 t351)) (fun _ hk => hk.2) (.int .i64 t352)) (fun _ hk => hk.2) (.int .i64 t353)) (fun _ hk => hk.2) (.slice Ao9 t354.length co9)) (fun _ hk => hk.2) (.slice Ao10 t357.length co10)) (fun _ hk => ⟨hk.1.1.1.2, ⟨hk.1.1.2, hk.1.2⟩⟩)))⟩; have n1_ : Aside0 (Kd.R (Kd.int .i64) 3 w11 w.heap.size (fun k_ => some k_ ≠ (.slice Ao10 t357.length co10 : Value).ownBlock) (.slice Ao9 t354.length co9) t354) := ⟨(by rw [hw]; exact (by (with_reducible repeat (first | apply Kd.R_alloc | apply Kd.R_drewN | apply Kd.R_drew)); exact Kd.R_mono (Kd.R_far (p := ⟨gb360, 6, none⟩) (Kd.R_far (p := ⟨gb360, 5, none⟩) (Kd.R_far (p := ⟨gb360, 4, none⟩) (Kd.R_far (p := ⟨gb360, 3, none⟩) (Kd.R_far (p := ⟨gb360, 2, none⟩) (Kd.R_far (p := ⟨gb360, 1, none⟩) (Kd.R_far (p := ⟨gb360, 0, none⟩) (Kd.R_types HO356.out BK360.out (by decide)) (fun _ hk => hk.2) (.int .i64 t349)) (fun _ hk => hk.2) (.int .i64 t350)) (fun _ hk => hk.2) (.int .i64 t351)) (fun _ hk => hk.2) (.int .i64 t352)) (fun _ hk => hk.2) (.int .i64 t353)) (fun _ hk => hk.2) (.slice Ao9 t354.length co9)) (fun _ hk => hk.2) (.slice Ao10 t357.length co10)) (fun _ hk => hk.1)))⟩; have n2_ : Aside0 (Kd.R (Kd.int .i64) 3 w11 w.heap.size (fun k_ => some k_ ≠ (.slice Ao9 t354.length co9 : Value).ownBlock) (.slice Ao10 t357.length co10) t357) := ⟨(by rw [hw]; exact (by (with_reducible repeat (first | apply Kd.R_alloc | apply Kd.R_drewN | apply Kd.R_drew)); exact Kd.R_mono (Kd.R_far (p := ⟨gb360, 6, none⟩) (Kd.R_far (p := ⟨gb360, 5, none⟩) (Kd.R_far (p := ⟨gb360, 4, none⟩) (Kd.R_far (p := ⟨gb360, 3, none⟩) (Kd.R_far (p := ⟨gb360, 2, none⟩) (Kd.R_far (p := ⟨gb360, 1, none⟩) (Kd.R_far (p := ⟨gb360, 0, none⟩) (Kd.R_types HO359.out BK360.out (by decide)) (fun _ hk => hk.2) (.int .i64 t349)) (fun _ hk => hk.2) (.int .i64 t350)) (fun _ hk => hk.2) (.int .i64 t351)) (fun _ hk => hk.2) (.int .i64 t352)) (fun _ hk => hk.2) (.int .i64 t353)) (fun _ hk => hk.2) (.slice Ao9 t354.length co9)) (fun _ hk => hk.2) (.slice Ao10 t357.length co10)) (fun _ hk => hk.1)))⟩; have n3_ : Aside0 (w11.heap[gb360]? = some (.cells #[.int .i64 t349, .int .i64 t350, .int .i64 t351, .int .i64 t352, .int .i64 t353, .slice Ao9 t354.length co9, .slice Ao10 t357.length co10] 52 (0, 0))) := ⟨(by rw [hw]; exact (by (with_reducible repeat (first | refine blk_drewN ?_ _ | refine blk_drew ?_ | refine blk_alloc ?_ _)); refine blk_put (cs := #[.int .i64 t349, .int .i64 t350, .int .i64 t351, .int .i64 t352, .int .i64 t353, .slice Ao9 t354.length co9, .slice none 0 0]) ?_ 6 _ rfl; (with_reducible repeat (first | refine blk_drewN ?_ _ | refine blk_drew ?_ | refine blk_alloc ?_ _)); refine blk_put (cs := #[.int .i64 t349, .int .i64 t350, .int .i64 t351, .int .i64 t352, .int .i64 t353, .slice none 0 0, .slice none 0 0]) ?_ 5 _ rfl; (with_reducible repeat (first | refine blk_drewN ?_ _ | refine blk_drew ?_ | refine blk_alloc ?_ _)); refine blk_put (cs := #[.int .i64 t349, .int .i64 t350, .int .i64 t351, .int .i64 t352, .int .i64 0, .slice none 0 0, .slice none 0 0]) ?_ 4 _ rfl; (with_reducible repeat (first | refine blk_drewN ?_ _ | refine blk_drew ?_ | refine blk_alloc ?_ _)); refine blk_put (cs := #[.int .i64 t349, .int .i64 t350, .int .i64 t351, .int .i64 0, .int .i64 0, .slice none 0 0, .slice none 0 0]) ?_ 3 _ rfl; (with_reducible repeat (first | refine blk_drewN ?_ _ | refine blk_drew ?_ | refine blk_alloc ?_ _)); refine blk_put (cs := #[.int .i64 t349, .int .i64 t350, .int .i64 0, .int .i64 0, .int .i64 0, .slice none 0 0, .slice none 0 0]) ?_ 2 _ rfl; (with_reducible repeat (first | refine blk_drewN ?_ _ | refine blk_drew ?_ | refine blk_alloc ?_ _)); refine blk_put (cs := #[.int .i64 t349, .int .i64 0, .int .i64 0, .int .i64 0, .int .i64 0, .slice none 0 0, .slice none 0 0]) ?_ 1 _ rfl; (with_reducible repeat (first | refine blk_drewN ?_ _ | refine blk_drew ?_ | refine blk_alloc ?_ _)); refine blk_put (cs := #[.int .i64 0, .int .i64 0, .int .i64 0, .int .i64 0, .int .i64 0, .slice none 0 0, .slice none 0 0]) ?_ 0 _ rfl; (with_reducible repeat (first | refine blk_drewN ?_ _ | refine blk_drew ?_ | refine blk_alloc ?_ _)); exact BK360.out))⟩; have n4_ : Aside0 (Below w.heap.size w w11) := ⟨(by rw [hw]; exact (by repeat (first | (with_reducible first | exact HB.out | apply below_alloc | apply pw_below_drewN | apply below_drew1 | refine below_set ?_ GE360.out) | exact HB.out)))⟩; clear hw; clear HO_3; clear HO356; clear HO359; clear BK360; clear HB; have HO_3 := n0_; have HO356 := n1_; have HO359 := n2_; have BK360 := n3_; have HB := n4_; clear n0_ n1_ n2_ n3_ n4_; have hcz12_0 : w11.cell? ⟨gb360, 0, none⟩ = some (.int .i64 t349) := (blk_cell BK360.out 0).trans rfl; have hcz12_1 : w11.cell? ⟨gb360, 1, none⟩ = some (.int .i64 t350) := (blk_cell BK360.out 1).trans rfl; have hcz12_2 : w11.cell? ⟨gb360, 2, none⟩ = some (.int .i64 t351) := (blk_cell BK360.out 2).trans rfl; have hcz12_3 : w11.cell? ⟨gb360, 3, none⟩ = some (.int .i64 t352) := (blk_cell BK360.out 3).trans rfl; have hcz12_4 : w11.cell? ⟨gb360, 4, none⟩ = some (.int .i64 t353) := (blk_cell BK360.out 4).trans rfl; have hcz12_5 : w11.cell? ⟨gb360, 5, none⟩ = some (.slice Ao9 t354.length co9) := (blk_cell BK360.out 5).trans rfl; have hcz12_6 : w11.cell? ⟨gb360, 6, none⟩ = some (.slice Ao10 t357.length co10) := (blk_cell BK360.out 6).trans rfl; have hfz12_0 := blk_frozen BK360.out 0; have hfz12_1 := blk_frozen BK360.out 1; have hfz12_2 := blk_frozen BK360.out 2; have hfz12_3 := blk_frozen BK360.out 3; have hfz12_4 := blk_frozen BK360.out 4; have hfz12_5 := blk_frozen BK360.out 5; have hfz12_6 := blk_frozen BK360.out 6) | ((with_reducible refine gate_builtin (b := .append) (xs := #[.tmp 17, .tmp 19]) rfl ?_); at_builtin; refine Kd.S_append k52 (w0 := w) w.heap.size rfl (.tmp 17) (.tmp 19) 41 52 (.agg #[(.int .i64 0), (.int .i64 0), (.int .i64 0), (.int .i64 0), (.int .i64 0), (.slice none 0 0), (.slice none 0 0)]) 88 rfl Tryd.underlying41 info52 rfl (by decide) (by omega) u3 x3_1 (⟨t349, t350, t351, t352, t353, t354, t357⟩ : S52) [.int .i64 t349, .int .i64 t350, .int .i64 t351, .int .i64 t352, .int .i64 t353, .slice Ao9 t354.length co9, .slice Ao10 t357.length co10] (fun k_ => k_ ≠ gb360) (fun k_ => some k_ = (.slice Ao9 t354.length co9 : Value).ownBlock ∨ some k_ = (.slice Ao10 t357.length co10 : Value).ownBlock) rfl rfl ?aP (fun k_ hk_ => hk_.elim (fun h_ => ((Kd.R_mono (ok' := fun k_ => ((fun k_ => k_ ≠ gb360)) k_ ∧ some k_ ≠ (u3 : Value).ownBlock) (Kd.R_types (Kd.R_apart' (HO356.out) (Kd.S_typed HO_3.out) (by decide)) BK360.out (by decide)) (fun k_ hk => ⟨hk.2, hk.1.2⟩))).1 k_ h_.symm) (fun h_ => ((Kd.R_mono (ok' := fun k_ => ((fun k_ => k_ ≠ gb360)) k_ ∧ some k_ ≠ (u3 : Value).ownBlock) (Kd.R_types (Kd.R_apart' (HO359.out) (Kd.S_typed HO_3.out) (by decide)) BK360.out (by decide)) (fun k_ hk => ⟨hk.2, hk.1.2⟩))).1 k_ h_.symm)) ?aF ?aO ?aB ?aS ?aL ?_; (case aP => exact k52_mkM _ _ _ (⟨t349, t350, t351, t352, t353, t354, t357⟩ : S52) (Kd.R_mono (Kd.R_tight rfl (Kd.R_mono (ok' := fun k_ => ((fun k_ => k_ ≠ gb360)) k_ ∧ some k_ ≠ (u3 : Value).ownBlock) (Kd.R_types (Kd.R_apart' (HO356.out) (Kd.S_typed HO_3.out) (by decide)) BK360.out (by decide)) (fun k_ hk => ⟨hk.2, hk.1.2⟩))) (fun _ h_ => Or.inl h_)) (Kd.R_mono (Kd.R_tight rfl (Kd.R_mono (ok' := fun k_ => ((fun k_ => k_ ≠ gb360)) k_ ∧ some k_ ≠ (u3 : Value).ownBlock) (Kd.R_types (Kd.R_apart' (HO359.out) (Kd.S_typed HO_3.out) (by decide)) BK360.out (by decide)) (fun k_ hk => ⟨hk.2, hk.1.2⟩))) (fun _ h_ => Or.inr (h_)))); (case aB => exact (by repeat (first | (with_reducible first | exact HB.out | apply below_alloc | apply pw_below_drewN | apply below_drew1 | refine below_set ?_ GE360.out) | exact HB.out))); (case aF => exact (fun k_ hk => Kd.freshB (g := gb360) (o := .cells #[.int .i64 t349, .int .i64 t350, .int .i64 t351, .int .i64 t352, .int .i64 t353, .slice Ao9 t354.length co9, .slice Ao10 t357.length co10] 52 (0, 0)) (by (with_reducible repeat (first | refine blk_drewN ?_ _ | refine blk_drew ?_ | refine blk_alloc ?_ _)); exact BK360.out) k_ hk)); (case aO => exact (by (with_reducible repeat (first | apply Kd.S_alloc | apply Kd.S_drewN | apply Kd.S_drew)); exact Kd.S_mono HO_3.out (fun k_ hk => ⟨hk.2.2, fun e_ => e_.elim (fun h_ => hk.1 h_) (fun h_ => hk.2.1 h_)⟩))); (case aS => exact (below_size (by repeat (first | (with_reducible first | exact HB.out | apply below_alloc | apply pw_below_drewN | apply below_drew1 | refine below_set ?_ GE360.out) | exact HB.out)))); (case aL => have := LMc5.out; omega); intro v362 w13 ho hb hg hat; rw [← Ny361.out] at ho; have n0_ := Aside0.mk (blk_grown (g := gb360) (o := .cells #[.int .i64 t349, .int .i64 t350, .int .i64 t351, .int .i64 t352, .int .i64 t353, .slice Ao9 t354.length co9, .slice Ao10 t357.length co10] 52 (0, 0)) (by (with_reducible repeat (first | refine blk_drewN ?_ _ | refine blk_drew ?_ | refine blk_alloc ?_ _)); exact BK360.out) hg (Kd.S_away HO_3.out (fun _ hk => hk.2.2))); have n1_ := Aside0.mk (hb); have n2_ := Aside0.mk (ho); clear BK360; clear HB; clear HO_3; clear HO356; clear HO359; have BK360 := n0_; have HB := n1_; have HO363 := n2_; clear n0_ n1_ n2_; clear ho hb hg hat))
            go_roundg k1
            case measure => have := HK1.out; omega
            case rel => exact ⟨(y361), (wrap64 (x4_1 + 1)), (by first | rfl | (simp; done) | (simp [*]; done)), H', ⟨by have := HK1.out; omega⟩, ⟨by (with_reducible repeat (first | apply Kd.S_alloc | apply Kd.S_drewN | apply Kd.S_drew)); exact Kd.S_mono HO363.out (fun _ hk => trivial)⟩, ⟨by repeat (first | (with_reducible first | exact HB.out | apply below_alloc | apply pw_below_drewN | apply below_drew1 | refine below_set ?_ GE360.out) | exact HB.out)⟩⟩
          · rw [if_neg c5] at H
            exact absurd H (by simp)
        · rw [if_neg c3] at H
          exact absurd H (by simp)
      · rw [if_neg c2] at H
        have c2b0 : decide (x4_1 < (l0.length : Int)) = false := decide_eq_false c2
        clear c2
        obtain rfl := Option.some.inj H
        go_wp2
        go_ret
        exact ⟨_, by first | rfl | (simp [errW_none, errW_some] <;> rfl) | (simp [*, errW_none, errW_some] <;> rfl), by (with_reducible repeat (first | apply Kd.S_alloc | apply Kd.S_drewN | apply Kd.S_drew)); exact HO_3.out, by repeat (first | (with_reducible first | exact HB.out | apply below_alloc | apply pw_below_drewN | apply below_drew1) | exact HB.out)⟩
def fugueref00_CopyFunc.f (k : Nat) (a0_0 : Int) (a0_1 : Int) (a0_2 : Int) (l0_3 : List (S52)) : Option (Int × Int × Int × (List (S52))) := (fugueref00_CopyCode.f k l0_3).bind fun t366 => (some (a0_0, a0_1, a0_2, t366))
set_option maxHeartbeats 8000000 in
set_option maxRecDepth 100000 in
theorem fugueref00_CopyFunc.calls (k : Nat) (a0_0 : Int) (a0_1 : Int) (a0_2 : Int) (A0_3 : Option Addr) (c0_3 : Nat) (l0_3 : List (S52)) (r1 : Int) (r2 : Int) (r3 : Int) (r4 : List (S52)) (w : World) (hr0_3 : Kd.C k52 w A0_3 l0_3.length l0_3) (hc0_3 : l0_3.length ≤ c0_3) (h : fugueref00_CopyFunc.f k a0_0 a0_1 a0_2 l0_3 = some (r1, r2, r3, r4)) :
    Calls Tryd.prog 44 #[.agg #[.int .i64 a0_0, .int .i64 a0_1, .int .i64 a0_2, .slice A0_3 l0_3.length c0_3]] w fun e w' => ∃ v3_ : Value, e = .returned (.agg #[.int .i64 r1, .int .i64 r2, .int .i64 r3, v3_]) ∧ Kd.S k52 52 w' w.heap.size (fun _ => True) v3_ r4 ∧ Below w.heap.size w w' := by
  have hu45 := Tryd.underlying45
  have HR0_3 := Aside0.mk hr0_3
  have HC0_3 := Aside0.mk hc0_3
  clear hr0_3 hc0_3
  have HB := Aside0.mk (Below.refl w.heap.size w)
  have H : ((fugueref00_CopyCode.f k l0_3).bind fun t366 => (some (a0_0, a0_1, a0_2, t366))) = some (r1, r2, r3, r4) := h
  clear h
  replace H := Option.bind_eq_some_iff.mp H
  obtain ⟨t366, A20, H⟩ := H
  replace H : (some (a0_0, a0_1, a0_2, t366)) = some (r1, r2, r3, r4) := H
  have A2 := Aside0.mk A20
  clear A20
  simp only [Option.some.injEq, Prod.mk.injEq] at H
  obtain ⟨rfl, rfl, rfl, rfl⟩ := H
  go_enter Tryd.func44, Tryd.ntmps44
  go_wp2_with (first | ((with_reducible refine gate_dst (N := 1) rfl ?_); refine box_event ?hg (N := 1) ?hd (cs := #[.int .i64 a0_0, .int .i64 a0_1, .int .i64 a0_2, .slice A0_3 l0_3.length c0_3]) (t := 45) ?hr ?_; (case hd => rfl); (case hg => rfl); (case hr => first | (go_simp; done) | (go_simp; rfl)); intro gb364 hg w3 hbox hb; have n0_ := Aside0.mk (below_step (by repeat (first | (with_reducible first | exact HB.out | apply below_alloc | apply pw_below_drewN | apply below_drew1) | exact HB.out)) hb); have n1_ := Aside0.mk (hbox); have n2_ := Aside0.mk ((by rw [hg]; exact (below_size (by repeat (first | (with_reducible first | exact HB.out | apply below_alloc | apply pw_below_drewN | apply below_drew1) | exact HB.out))) : w.heap.size ≤ gb364)); have n3_ := Aside0.mk ((by rw [hg]; exact (below_size (by repeat (first | (with_reducible first | exact HB.out | apply below_alloc | apply pw_below_drewN | apply below_drew1) | exact HB.out))) : w.heap.size ≤ gb364)); clear HB; have HB := n0_; have BK364 := n1_; have GW364 := n2_; have GE364 := n3_; clear n0_ n1_ n2_ n3_; clear hb hbox hg) | ((with_reducible refine gate_dst (N := 2) rfl ?_); refine box_event ?hg (N := 2) ?hd (cs := #[.int .i64 0, .int .i64 0, .int .i64 0, .slice none 0 0]) (t := 45) ?hr ?_; (case hd => rfl); (case hg => rfl); (case hr => first | (go_simp; done) | (go_simp; rfl)); intro gb365 hg w4 hbox hb; have n0_ := Aside0.mk (blk_below (g := gb364) (o := .cells #[.int .i64 a0_0, .int .i64 a0_1, .int .i64 a0_2, .slice A0_3 l0_3.length c0_3] 45 (0, 0)) (by (with_reducible repeat (first | refine blk_drewN ?_ _ | refine blk_drew ?_ | refine blk_alloc ?_ _)); exact BK364.out) hb); have n1_ := Aside0.mk (below_step (by repeat (first | (with_reducible first | exact HB.out | apply below_alloc | apply pw_below_drewN | apply below_drew1 | refine below_set ?_ GE364.out) | exact HB.out)) hb); have n2_ := Aside0.mk (hbox); have n3_ := Aside0.mk ((by rw [hg]; exact (below_size (by repeat (first | (with_reducible first | exact HB.out | apply below_alloc | apply pw_below_drewN | apply below_drew1 | refine below_set ?_ GE364.out) | exact HB.out))) : w.heap.size ≤ gb365)); have n4_ := Aside0.mk ((by rw [hg]; exact (below_size (by repeat (first | (with_reducible first | exact HB.out | apply below_alloc | apply pw_below_drewN | apply below_drew1 | refine below_set ?_ GE364.out) | exact HB.out))) : w.heap.size ≤ gb365)); have n5_ := Aside0.mk ((by rw [hg]; exact Nat.ne_of_lt (blk_lt (g := gb364) (o := .cells #[.int .i64 a0_0, .int .i64 a0_1, .int .i64 a0_2, .slice A0_3 l0_3.length c0_3] 45 (0, 0)) (by (with_reducible repeat (first | refine blk_drewN ?_ _ | refine blk_drew ?_ | refine blk_alloc ?_ _)); exact BK364.out)) : gb364 ≠ gb365)); have n6_ := Aside0.mk ((by rw [hg]; exact Nat.ne_of_gt (blk_lt (g := gb364) (o := .cells #[.int .i64 a0_0, .int .i64 a0_1, .int .i64 a0_2, .slice A0_3 l0_3.length c0_3] 45 (0, 0)) (by (with_reducible repeat (first | refine blk_drewN ?_ _ | refine blk_drew ?_ | refine blk_alloc ?_ _)); exact BK364.out)) : gb365 ≠ gb364)); clear BK364; clear HB; have BK364 := n0_; have HB := n1_; have BK365 := n2_; have GW365 := n3_; have GE365 := n4_; have NB364_365 := n5_; have NB365_364 := n6_; clear n0_ n1_ n2_ n3_ n4_ n5_ n6_; clear hb hbox hg; have hnb5 := NB364_365.out; have hnc5 := NB365_364.out; have hcz6_0 : w4.cell? ⟨gb364, 0, none⟩ = some (.int .i64 a0_0) := (blk_cell BK364.out 0).trans rfl; have hcz6_1 : w4.cell? ⟨gb364, 1, none⟩ = some (.int .i64 a0_1) := (blk_cell BK364.out 1).trans rfl; have hcz6_2 : w4.cell? ⟨gb364, 2, none⟩ = some (.int .i64 a0_2) := (blk_cell BK364.out 2).trans rfl; have hcz6_3 : w4.cell? ⟨gb364, 3, none⟩ = some (.slice A0_3 l0_3.length c0_3) := (blk_cell BK364.out 3).trans rfl; have hfz6_0 := blk_frozen BK364.out 0; have hfz6_1 := blk_frozen BK364.out 1; have hfz6_2 := blk_frozen BK364.out 2; have hfz6_3 := blk_frozen BK364.out 3) | ((with_reducible refine gate_callee (f := 13) rfl ?_); refine goesL_ (some 5) rfl rfl Tryd.func13 (by kernel_rfl) rfl #[.slice A0_3 l0_3.length c0_3] rfl (by (try simp only [List.map_toArray, List.map_cons, List.map_nil]); first | done | rfl | (simp only [List.length_drop, List.length_take]; rfl)) ?_; (with_reducible refine (fugueref00_CopyCode.calls k _ _ l0_3 t366 _ ?side1 ?side2 A2.out).mono ?_); (case side1 => repeat (first | exact (Kd.C_below HR0_3.out HB.out) | (with_reducible refine Kd.C_alloc ?_ _) | (with_reducible refine Kd.C_drewN ?_ _) | (with_reducible refine Kd.C_drew ?_))); (case side2 => exact HC0_3.out); rintro e w7 ⟨v367, rfl, ho0, hb⟩; refine ⟨_, rfl, ?_⟩; have n0_ := Aside0.mk (Kd.S_lower ho0 (below_size (by repeat (first | (with_reducible first | exact HB.out | apply below_alloc | apply pw_below_drewN | apply below_drew1 | refine below_set ?_ GE364.out | refine below_set ?_ GE365.out) | exact HB.out)))); have n1_ := Aside0.mk (blk_below (g := gb364) (o := .cells #[.int .i64 a0_0, .int .i64 a0_1, .int .i64 a0_2, .slice A0_3 l0_3.length c0_3] 45 (0, 0)) (by (with_reducible repeat (first | refine blk_drewN ?_ _ | refine blk_drew ?_ | refine blk_alloc ?_ _)); exact BK364.out) hb); have n2_ := Aside0.mk (blk_below (g := gb365) (o := .cells #[.int .i64 0, .int .i64 0, .int .i64 0, .slice none 0 0] 45 (0, 0)) (by (with_reducible repeat (first | refine blk_drewN ?_ _ | refine blk_drew ?_ | refine blk_alloc ?_ _)); exact BK365.out) hb); have n3_ := Aside0.mk (below_step (by repeat (first | (with_reducible first | exact HB.out | apply below_alloc | apply pw_below_drewN | apply below_drew1 | refine below_set ?_ GE364.out | refine below_set ?_ GE365.out) | exact HB.out)) hb); clear BK364; clear BK365; clear HB; have HO368 := n0_; have BK364 := n1_; have BK365 := n2_; have HB := n3_; clear n0_ n1_ n2_ n3_; (try clear hb); (try clear hb2); (try clear hk); (try clear hi); (try clear ho0); obtain ⟨Ao8, co8, eo8⟩ := Kd.S_slice HO368.out; subst eo8; have hcz9_0 : w7.cell? ⟨gb364, 0, none⟩ = some (.int .i64 a0_0) := (blk_cell BK364.out 0).trans rfl; have hcz9_1 : w7.cell? ⟨gb364, 1, none⟩ = some (.int .i64 a0_1) := (blk_cell BK364.out 1).trans rfl; have hcz9_2 : w7.cell? ⟨gb364, 2, none⟩ = some (.int .i64 a0_2) := (blk_cell BK364.out 2).trans rfl; have hcz9_3 : w7.cell? ⟨gb364, 3, none⟩ = some (.slice A0_3 l0_3.length c0_3) := (blk_cell BK364.out 3).trans rfl; have hfz9_0 := blk_frozen BK364.out 0; have hfz9_1 := blk_frozen BK364.out 1; have hfz9_2 := blk_frozen BK364.out 2; have hfz9_3 := blk_frozen BK364.out 3; have hcz10_0 : w7.cell? ⟨gb365, 0, none⟩ = some (.int .i64 0) := (blk_cell BK365.out 0).trans rfl; have hcz10_1 : w7.cell? ⟨gb365, 1, none⟩ = some (.int .i64 0) := (blk_cell BK365.out 1).trans rfl; have hcz10_2 : w7.cell? ⟨gb365, 2, none⟩ = some (.int .i64 0) := (blk_cell BK365.out 2).trans rfl; have hcz10_3 : w7.cell? ⟨gb365, 3, none⟩ = some (.slice none 0 0) := (blk_cell BK365.out 3).trans rfl; have hfz10_0 := blk_frozen BK365.out 0; have hfz10_1 := blk_frozen BK365.out 1; have hfz10_2 := blk_frozen BK365.out 2; have hfz10_3 := blk_frozen BK365.out 3))
  refine bodyPost_ret (results_cell_row rfl _ _ gb365 45 #[.int .i64 a0_0, .int .i64 a0_1, .int .i64 a0_2, .slice Ao8 t366.length co8] (0, 0) _ rfl (by (with_reducible repeat (first | refine blk_drewN ?_ _ | refine blk_drew ?_ | refine blk_alloc ?_ _)); refine blk_put (cs := #[.int .i64 a0_0, .int .i64 a0_1, .int .i64 a0_2, .slice none 0 0]) ?_ 3 _ rfl; (with_reducible repeat (first | refine blk_drewN ?_ _ | refine blk_drew ?_ | refine blk_alloc ?_ _)); refine blk_put (cs := #[.int .i64 a0_0, .int .i64 a0_1, .int .i64 0, .slice none 0 0]) ?_ 2 _ rfl; (with_reducible repeat (first | refine blk_drewN ?_ _ | refine blk_drew ?_ | refine blk_alloc ?_ _)); refine blk_put (cs := #[.int .i64 a0_0, .int .i64 0, .int .i64 0, .slice none 0 0]) ?_ 1 _ rfl; (with_reducible repeat (first | refine blk_drewN ?_ _ | refine blk_drew ?_ | refine blk_alloc ?_ _)); refine blk_put (cs := #[.int .i64 0, .int .i64 0, .int .i64 0, .slice none 0 0]) ?_ 0 _ rfl; (with_reducible repeat (first | refine blk_drewN ?_ _ | refine blk_drew ?_ | refine blk_alloc ?_ _)); refine blk_far ?_ NB365_364.out _; (with_reducible repeat (first | refine blk_drewN ?_ _ | refine blk_drew ?_ | refine blk_alloc ?_ _)); exact BK365.out) Tryd.underlying45 rfl (by kernel_rfl)) rfl ?_
  exact ⟨_, by first | rfl | (simp [errW_none, errW_some] <;> rfl) | (simp [*, errW_none, errW_some] <;> rfl), by (with_reducible repeat (first | apply Kd.S_alloc | apply Kd.S_drewN | apply Kd.S_drew)); exact Kd.S_mono (Kd.S_far (p := ⟨gb365, 3, none⟩) (Kd.S_far (p := ⟨gb365, 2, none⟩) (Kd.S_far (p := ⟨gb365, 1, none⟩) (Kd.S_far (p := ⟨gb365, 0, none⟩) (Kd.S_far (p := ⟨gb364, 3, none⟩) (Kd.S_types (Kd.S_types HO368.out BK364.out (by decide)) BK365.out (by decide)) (fun _ hk => hk.1.2) (.slice Ao8 t366.length co8)) (fun _ hk => hk.2) (.int .i64 a0_0)) (fun _ hk => hk.2) (.int .i64 a0_1)) (fun _ hk => hk.2) (.int .i64 a0_2)) (fun _ hk => hk.2) (.slice Ao8 t366.length co8)) (fun _ hk => trivial), by repeat (first | (with_reducible first | exact HB.out | apply below_alloc | apply pw_below_drewN | apply below_drew1 | refine below_set ?_ GE364.out | refine below_set ?_ GE365.out) | exact HB.out)⟩
end Go.Proofs.YtcbcacbbnojdjaaDoor.PSolveMonotone
namespace Go.Proofs.YtcbcacbbnojdjaaDoor
open Go.RowKit Go.Maps Go.Proofs.YtcbcacbbnojdjaaDoorW.PrintWords Go.Proofs.YtcbcacbbnojdjaaDoorW.PrintLast Go.Proofs.YtcbcacbbnojdjaaDoor.PSolveMonotone
set_option linter.unusedVariables false
set_option linter.unusedSimpArgs false
theorem ev_copyInstr (x : Ins) (hs : SmallI x) : Ev (fun k => fugueref00_CopyInstr.f k x.f0 x.f1 x.f2 x.f3 x.f4 x.f5 x.f6) (x.f0, x.f1, x.f2, x.f3, x.f4, x.f5, x.f6) := by
  unfold fugueref00_CopyInstr.f
  refine Ev.bind (f := fun k t => ((fugueref00_CopyInts.f k x.f6).bind fun t2 => some (x.f0, x.f1, x.f2, x.f3, x.f4, t, t2))) (ev_copyInts x.f5 hs.1) ?_
  exact Ev.bind (f := fun _ t => some (x.f0, x.f1, x.f2, x.f3, x.f4, x.f5, t)) (ev_copyInts x.f6 hs.2) (Ev.now _)
theorem ev_copyCode (xs : List Ins) (hm : xs.length ≤ 2147483647) (hs : ∀ x ∈ xs, SmallI x) : Ev (fun k => fugueref00_CopyCode.f k xs) xs := by
  have h := ev_copy (fun k acc i => fugueref00_CopyCode.l0 k xs acc i) xs zI (fun k acc => by simp only [fugueref00_CopyCode.l0]; rw [if_neg (by omega)])
    (fun k x => fugueref00_CopyInstr.f k x.f0 x.f1 x.f2 x.f3 x.f4 x.f5 x.f6) (fun t => (⟨t.1, t.2.1, t.2.2.1, t.2.2.2.1, t.2.2.2.2.1, t.2.2.2.2.2.1, t.2.2.2.2.2.2⟩ : Ins))
    (fun k i acc hi ha => by
      simp only [fugueref00_CopyCode.l0]
      rw [if_pos (by omega), if_pos (by omega), wrap_succ i _ hi (by omega)]
      show Option.bind _ _ = Option.bind _ _
      congr 1
      funext y
      rw [if_pos (by omega)]) (fun i hi => ⟨_, ev_copyInstr _ (hs _ (getD_mem _ _ _ hi)), rfl⟩) xs.length 0 (by omega)
  exact h
theorem ev_copyFunc (f : Fun) (hm : f.f3.length ≤ 2147483647) (hs : ∀ x ∈ f.f3, SmallI x) : Ev (fun k => fugueref00_CopyFunc.f k f.f0 f.f1 f.f2 f.f3) (f.f0, f.f1, f.f2, f.f3) := by
  unfold fugueref00_CopyFunc.f
  exact Ev.bind (f := fun _ t => some (f.f0, f.f1, f.f2, t)) (ev_copyCode f.f3 hm hs) (Ev.now _)
theorem take_snoc (xs : List Fun) (j : Nat) (h : j < xs.length) : xs.take j ++ [xs.getD j zF] = xs.take (j + 1) := by
  rw [List.take_add_one, List.getD_eq_getElem?_getD, List.getElem?_eq_getElem h]; rfl
set_option maxRecDepth 100000 in
set_option maxHeartbeats 6400000 in
theorem copyFuncs_any (A : Option Addr) (c : Nat) (fs : List Fun) (w : World) (hC : k45.C w A fs.length fs) (hcap : fs.length ≤ c) (hl : fs.length ≤ 2147483647)
    (hs : ∀ f ∈ fs, f.f3.length ≤ 2147483647 ∧ ∀ x ∈ f.f3, SmallI x) :
    Calls Tryd.prog 28 #[.slice A fs.length c] w fun e w' => ∃ v, e = .returned v ∧ Kd.S k45 45 w' w.heap.size (fun _ => True) v fs ∧ Below w.heap.size w w' := by
  have HC := Lib.hid hC
  have HS := Lib.hid hs
  clear hC hs
  go_enter Tryd.func28, Tryd.ntmps28
  go_upto_region 3 with (fail)
  go_loopw [3, 4] (fun u i wr => ∃ j : Nat, j ≤ fs.length ∧ i = .int .i64 j ∧ Kd.S k45 45 wr w.heap.size (fun _ => True) u (fs.take j) ∧ Below w.heap.size w wr) (fun u i _ => fs.length - (intOf i).toNat)
  case atStart => exact ⟨0, by omega, rfl, Kd.S_nil _ _ _ _ _, Below.refl _ _⟩
  case round =>
    obtain ⟨j, hj, rfl, hu, hB⟩ := hrel
    have HU := Lib.hid hu
    have HB := Lib.hid hB
    clear hu hB
    by_cases hlt : j < fs.length
    · obtain ⟨ad, A3, c3, rfl, q0, q1, q2, q3, hc3, hC3⟩ := at_T45 (Kd.C_below HC.out HB.out) (j : Int) (by omega) (by omega)
      obtain ⟨f, hf⟩ : ∃ f, fs.getD j zF = f := ⟨_, rfl⟩
      have hf' : rd_T45 fs (j : Int) = f := hf
      rw [hf', Int.toNat_natCast] at q0 q1 q2 q3
      rw [hf'] at hc3 hC3
      have hfs := HS.out f (hf ▸ getD_mem _ _ _ hlt)
      obtain ⟨k, hk⟩ := (ev_copyFunc f hfs.1 hfs.2).rounds
      have HCF := Lib.hid (fugueref00_CopyFunc.calls k f.f0 f.f1 f.f2 A3 c3 f.f3 f.f0 f.f1 f.f2 f.f3 wr hC3 hc3 hk)
      have HF := Lib.hid hf
      clear hf hf' hfs hk hc3 hC3
      go_wp2_with fail
      refine HCF.out.mono ?_
      rintro e w3 ⟨v3, rfl, hs3, hb3⟩
      clear HCF q0 q1 q2 q3
      obtain ⟨B3, d3, rfl⟩ := Kd.S_slice hs3
      have hs4 := Kd.S_below hs3 (below1 w3 (.cells #[.int .i64 f.f0, .int .i64 f.f1, .int .i64 f.f2, .slice B3 f.f3.length d3] 45))
      have hn4 := alloc_new w3 (.cells #[.int .i64 f.f0, .int .i64 f.f1, .int .i64 f.f2, .slice B3 f.f3.length d3] 45)
      have hb4 := hb3.trans ((below1 w3 (.cells #[.int .i64 f.f0, .int .i64 f.f1, .int .i64 f.f2, .slice B3 f.f3.length d3] 45)).mono hb3.size)
      have HS4 := Lib.hid hs4
      have HB4 := Lib.hid hb4
      clear hs3 hb3 hs4 hb4
      obtain ⟨m, hm⟩ : ∃ m, w3.heap.size = m := ⟨_, rfl⟩
      go_upto_region 6 with (fail)
      rw [hm] at hn4
      clear hm
      generalize World.alloc _ _ = w4 at hn4 HS4 HB4 ⊢
      have g0 := blk_cell hn4 0
      have g1 := blk_cell hn4 1
      have g2 := blk_cell hn4 2
      have g3 := blk_cell hn4 3
      simp only [List.getElem?_toArray, List.getElem?_cons_succ, List.getElem?_cons_zero] at g0 g1 g2 g3
      clear hn4
      have hN : w.heap.size ≤ wr.heap.size := HB.out.size
      have HN := Lib.hid hN
      have HM := Lib.hid (k45_mkM w4 w.heap.size (fun k => wr.heap.size ≤ k) f (Kd.R_lower (Kd.R_mono (Kd.R_bound (Kd.S_R HS4.out)) (fun _ hk => hk.2.1)) hN))
      have HOK := Lib.hid (fun (k : Nat) (hk : wr.heap.size ≤ k) => (⟨trivial, fun e => by have := Kd.S_lt HU.out k e.symm; omega⟩ : True ∧ some k ≠ u3.ownBlock))
      have HO := Lib.hid (show Kd.S k45 45 w4 w.heap.size (fun k => True ∧ ¬ wr.heap.size ≤ k) u3 (fs.take j) from Kd.S_mono (Kd.S_below (Kd.S_bound HU.out) HB4.out) (fun k hk => ⟨trivial, by have := hk.2.2.1; omega⟩))
      have HB5 := Lib.hid (HB.out.trans (HB4.out.mono hN))
      have hl5 : ((fs.take j).length + 1) * 48 ≤ 140737488355328 := by rw [List.length_take]; omega
      obtain ⟨Au, cu, rfl⟩ := Kd.S_slice HU.out
      clear hN
      go_wp2_with (first | (at_builtin; refine Kd.S_append k45 (w0 := w) (W := w4) w.heap.size rfl (.tmp 17) (.tmp 19) 22 45 (.agg #[.int .i64 0, .int .i64 0, .int .i64 0, .slice none 0 0]) 48 rfl Tryd.underlying22 info_fun rfl (by decide) (by decide) (.slice Au (fs.take j).length cu) (fs.take j) f [.int .i64 f.f0, .int .i64 f.f1, .int .i64 f.f2, .slice B3 f.f3.length d3] (fun _ => True) (fun k => wr.heap.size ≤ k) rfl rfl HM.out HOK.out (fun _ _ => trivial) HO.out HB5.out HB5.out.size hl5 ?_; intro u1 w8 hr8 hb8 hg8 hat8; have HU8 := Lib.hid hr8; have HB8 := Lib.hid hb8; clear hr8 hb8 hg8 hat8))
      go_roundw
      case rel => exact ⟨j + 1, by omega, by go_num, by rw [← take_snoc fs j hlt, HF.out]; exact HU8.out, HB8.out⟩
      case measure => simp [intOf]; omega
    · obtain rfl : j = fs.length := by omega
      rw [List.take_length] at HU
      go_wp2_with fail
      go_ret
      exact ⟨_, rfl, HU.out, HB.out⟩
set_option maxRecDepth 100000 in
set_option maxHeartbeats 6400000 in
theorem copyProg_any (G : Int) (A : Option Addr) (c : Nat) (fs : List Fun) (w : World) (hC : k45.C w A fs.length fs) (hcap : fs.length ≤ c) (hl : fs.length ≤ 2147483647)
    (hs : ∀ f ∈ fs, f.f3.length ≤ 2147483647 ∧ ∀ x ∈ f.f3, SmallI x) :
    Calls Tryd.prog 12 #[.agg #[.int .i64 G, .slice A fs.length c]] w fun e w' => ∃ A2 c2, e = .returned (.agg #[.int .i64 G, .slice A2 fs.length c2]) ∧ Kd.S k45 45 w' w.heap.size (fun _ => True) (.slice A2 fs.length c2) fs ∧ Below w.heap.size w w' := by
  have HCF := Lib.hid (fun (X : World) (hX : Below w.heap.size w X) => copyFuncs_any A c fs X (Kd.C_below hC hX) hcap hl hs)
  clear hC hs
  go_enter Tryd.func12, Tryd.ntmps12
  go_upto_region 1 with (fail)
  have hb2 := two_allocs w (.cells #[.int .i64 G, .slice A fs.length c] 24) (.cells #[.int .i64 0, .slice none 0 0] 24)
  have f1 := alloc_first w #[.int .i64 G, .slice A fs.length c] 24 (.cells #[.int .i64 0, .slice none 0 0] 24)
  have f2 := alloc_second w (.cells #[.int .i64 G, .slice A fs.length c] 24) #[.int .i64 0, .slice none 0 0] 24
  obtain ⟨N, hN⟩ : ∃ N, w.heap.size = N := ⟨_, rfl⟩
  have HN := Lib.hid hN
  have HC2 := Lib.hid (HCF.out _ (below_drew hb2))
  rw [hN] at hb2 f1 f2 ⊢
  clear hN HCF
  generalize World.alloc _ _ = W2 at hb2 f1 f2 HC2 ⊢
  have hb2 : Below N w W2.drew := below_drew hb2
  have f1 : W2.drew.heap[N]? = _ := f1
  have f2 : W2.drew.heap[N + 1]? = _ := f2
  have HB2 := Lib.hid hb2
  have F1 := Lib.hid f1
  have F2 := Lib.hid f2
  have p0 := blk_cell f1 0
  have p1 := blk_cell f1 1
  simp only [List.getElem?_toArray, List.getElem?_cons_succ, List.getElem?_cons_zero] at p0 p1
  clear hb2 f1 f2
  go_region_held3 (fun w' => w'.cell? ⟨N, 0, none⟩ = some (.int .i64 G) ∧ w'.cell? ⟨N, 1, none⟩ = some (.slice A fs.length c))
    (first | (go_keep; done) | exact ⟨q0, q1⟩)
    (first | (go_at_call 28; refine HC2.out.mono ?_; rintro e w3 ⟨v, rfl, hs3, hb3⟩; have q0 := below_cells hb3 _ _ p0; have q1 := below_cells hb3 _ _ p1; obtain ⟨A2, c2, rfl⟩ := Kd.S_slice hs3; have h2 := (hb3.block _ (blk_lt F2.out)).trans F2.out; have g0 := blk_cell h2 0; have g1 := blk_cell h2 1; have z0 := blk_frozen h2 0; have z1 := blk_frozen h2 1; simp only [List.getElem?_toArray, List.getElem?_cons_succ, List.getElem?_cons_zero] at g0 g1; have HS3 := Lib.hid hs3; have H2 := Lib.hid h2; have HB3 := Lib.hid (HB2.out.trans (hb3.mono (Nat.le_of_lt (blk_lt F1.out)))); clear hs3 hb3 h2))
  have k1 := blk_put H2.out 0 (.int .i64 G) rfl
  have k2 := blk_put k1 1 (.slice A2 fs.length c2) rfl
  simp only [List.setIfInBounds_toArray, List.set_cons_zero, List.set_cons_succ] at k2
  have hs5 := Kd.S_set (Kd.S_set (Kd.S_lower HS3.out (Nat.le_of_lt (blk_lt F1.out))) H2.out (by decide) 0 (.int .i64 G)) k1 (by decide) 1 (.slice A2 fs.length c2)
  have hb5 := (HB3.out.setCell (p := ⟨N + 1, 0, none⟩) (Nat.le_succ N) (.int .i64 G)).setCell (p := ⟨N + 1, 1, none⟩) (Nat.le_succ N) (.slice A2 fs.length c2)
  have HS5 := Lib.hid hs5
  have HB5 := Lib.hid hb5
  generalize World.setCell _ _ _ = w5 at k2 HS5 HB5 ⊢
  have x0 := blk_cell k2 0
  have x1 := blk_cell k2 1
  simp only [List.getElem?_toArray, List.getElem?_cons_succ, List.getElem?_cons_zero] at x0 x1
  clear k1 k2 hs5 hb5 g0 g1 z0 z1
  go_wp2_with fail
  refine bodyPost_ret (v := .agg #[.int .i64 G, .slice A2 fs.length c2]) ?_ rfl ⟨A2, c2, rfl, by rw [HN.out]; exact HS5.out, by rw [HN.out]; exact HB5.out⟩
  simp [results, Tryd.f12, go_sem, x0, x1]
end Go.Proofs.YtcbcacbbnojdjaaDoor
namespace Go.Proofs.YtcbcacbbnojdjaaDoor
open Go.RowKit Go.Proofs.YtcbcacbbnojdjaaDoorW.PrintWords Go.Proofs.YtcbcacbbnojdjaaDoor.PSolveMonotone
set_option linter.unusedVariables false
set_option linter.unusedSimpArgs false
/-- The function with more behind its code. -/
abbrev growF (f : Fun) (more : List Ins) : Fun := ⟨f.f0, f.f1, f.f2, f.f3 ++ more⟩
theorem callE_grow (f : Fun) (more : List Ins) (x : Ins) (s : Smm) : ∀ m, callE (growF f more) x s m = callE f x s m
  | 0 => rfl
  | m + 1 => by
    unfold callE
    rw [callE_grow f more x s m]
    have hres : ∀ rets row a m, resE (growF f more) rets row a m = resE f rets row a m := by
      intro rets row a m
      induction m with
      | zero => rfl
      | succ m ih => unfold resE; rw [ih]; rfl
    rw [hres]
    rfl
theorem edgE_grow (f : Fun) (more : List Ins) (sums : List Smm) (nx : Int) (x : Ins) : edgE (growF f more) sums nx x = edgE f sums nx x := by
  unfold edgE
  rw [callE_grow]
  rfl
theorem getD_left (xs ys : List Ins) {k : Nat} (hk : k < xs.length) : (xs ++ ys).getD k zI = xs.getD k zI := by
  rw [List.getD_eq_getElem?_getD, List.getD_eq_getElem?_getD, List.getElem?_append_left hk]
theorem allE_grow (f : Fun) (more : List Ins) (sums : List Smm) (n0 : Int) : ∀ k, k ≤ f.f3.length → allE (growF f more) sums n0 k = allE f sums n0 k
  | 0, _ => rfl
  | k + 1, hk => by
    unfold allE
    rw [allE_grow f more sums n0 k (by omega), edgE_grow, getD_left _ _ (by omega : k < f.f3.length)]
theorem leE_more (f : Fun) (sums : List Smm) (n0 : Int) (k : Nat) : ∀ m, LeE (allE f sums n0 k).1 (allE f sums n0 (k + m)).1
  | 0 => LeE.refl _
  | m + 1 => by
    intro e he
    obtain ⟨e', h1, h2⟩ := leE_more f sums n0 k m e he
    exact ⟨e', List.mem_append_left _ h1, h2⟩
theorem leE_grow (f : Fun) (more : List Ins) (sums : List Smm) (n0 : Int) : LeE (allE f sums n0 f.f3.length).1 (allE (growF f more) sums n0 (growF f more).f3.length).1 := by
  rw [← allE_grow f more sums n0 f.f3.length (Nat.le_refl _)]
  show LeE _ (allE (growF f more) sums n0 (f.f3 ++ more).length).1
  rw [List.length_append]
  exact leE_more _ _ _ _ _
theorem newsTo_grow (xs ys : List Ins) : ∀ k, k ≤ xs.length → newsTo (xs ++ ys) k = newsTo xs k
  | 0, _ => rfl
  | k + 1, hk => by
    unfold newsTo
    rw [newsTo_grow xs ys k (by omega), getD_left _ _ (by omega : k < xs.length)]
theorem locsF_grow (f : Fun) (more : List Ins) : locsF f ≤ locsF (growF f more) := by
  unfold locsF
  show _ ≤ _ + newsTo (f.f3 ++ more) (f.f3 ++ more).length
  have h1 := newsTo_grow f.f3 more f.f3.length (Nat.le_refl _)
  have h2 := newsTo_mono (f.f3 ++ more) (k := f.f3.length) (n := (f.f3 ++ more).length) (by rw [List.length_append]; omega)
  show (1 + f.f1 + f.f2).toNat + _ ≤ (1 + f.f1 + f.f2).toNat + _
  omega
theorem getD_setF (fs : List Fun) (fi i : Nat) (g : Fun) (hfi : fi < fs.length) : (fs.set fi g).getD i zF = if i = fi then g else fs.getD i zF := by
  rw [List.getD_eq_getElem?_getD, List.getElem?_set]
  by_cases h : fi = i
  · subst h; rw [if_pos rfl, if_pos hfi, if_pos rfl]; rfl
  · rw [if_neg h, if_neg (fun e => h e.symm), List.getD_eq_getElem?_getD]
theorem ShapesOk.grow {fs : List Fun} {a : List Smm} (h : ShapesOk fs a) (fi : Nat) (hfi : fi < fs.length) (more : List Ins) : ShapesOk (fs.set fi (growF (fs.getD fi zF) more)) a := by
  refine ⟨by rw [List.length_set]; exact h.1, fun i hi => ?_⟩
  rw [List.length_set] at hi
  rw [getD_setF fs fi i _ hfi]
  have hS := h.2 i hi
  split
  · subst i
    exact ⟨hS.h0, hS.h1, hS.hp, hS.hr, hS.hw⟩
  · exact hS
/-- More instructions: more escapes, the answers say more. -/
theorem func_grow {G : Int} {fs : List Fun} {a : List Smm} (fi : Nat) (hfi : fi < fs.length) {f : Fun} (hf : f = fs.getD fi zF) (more : List Ins) (ha : AllOk G fs) (hb : AllOk G (fs.set fi (growF f more))) (h1 : ShapesOk fs a) {esc esc' : List Bool} {hs hs' : List Int} {rows rows' : List (List Int)}
    (p : FuncIs f (allE f a (1 + f.f1 + f.f2) f.f3.length).1 esc hs rows) (q : FuncIs (growF f more) (allE (growF f more) a (1 + f.f1 + f.f2) (growF f more).f3.length).1 esc' hs' rows') : SaysMore esc esc' hs hs' rows rows' := by
  have h2 : ShapesOk (fs.set fi (growF f more)) a := by rw [hf]; exact h1.grow fi hfi more
  have hfi2 : fi < (fs.set fi (growF f more)).length := by rw [List.length_set]; exact hfi
  have hg : growF f more = (fs.set fi (growF f more)).getD fi zF := by rw [getD_setF fs fi fi _ hfi, if_pos rfl]
  have hfit := h2.fit hb fi hfi2
  rw [← hg] at hfit
  exact p.mono q rfl rfl (locsF_grow f more) (all_ok ha fi hfi f hf h1.1 (by rw [hf]; exact h1.fit ha fi hfi) _ (Nat.le_refl _)) (all_ok hb fi hfi2 (growF f more) hg h2.1 hfit _ (Nat.le_refl _)) (leE_grow f more a _)
theorem SmallF.reach {f : Fun} (h : SmallF f) : ReachF f := ⟨by have := h.1; omega, fun x hx => by have h2 := h.2 x hx; exact ⟨by have := h2.1; omega, by have := h2.2; omega⟩⟩
theorem reach_grow {fs : List Fun} (j : Nat) (more : List Ins) (hj : j < fs.length) (hs : ∀ f ∈ fs, SmallF f) (hm : SmallF ⟨0, 0, 0, more⟩) : ∀ x ∈ fs.set j (growF (fs.getD j zF) more), ReachF x := by
  intro x hx
  rcases List.mem_or_eq_of_mem_set hx with hx | rfl
  · exact (hs x hx).reach
  · have h1 := hs _ (getD_mem fs j zF hj)
    refine ⟨?_, fun y hy => ?_⟩
    · show ((fs.getD j zF).f3 ++ more).length ≤ _
      rw [List.length_append]
      have := h1.1
      have : more.length ≤ 2147483647 := hm.1
      omega
    · rcases List.mem_append.1 hy with hy | hy
      · exact h1.reach.2 y hy
      · exact hm.reach.2 y hy
end Go.Proofs.YtcbcacbbnojdjaaDoor
namespace Go.Proofs.YtcbcacbbnojdjaaDoor
open Go.RowKit Go.Maps Go.Proofs.YtcbcacbbnojdjaaDoorW.PrintWords Go.Proofs.YtcbcacbbnojdjaaDoorW.PrintLast Go.Proofs.YtcbcacbbnojdjaaDoor.PSolveMonotone
set_option linter.unusedVariables false
set_option linter.unusedSimpArgs false
/-- A row of one. -/
theorem one_C {w : World} {b : Nat} {f : Fun} {cs : List Value} {t : TypeId} (hs : w.heap[b]? = some (.cells cs.toArray t (0, 0))) (h : k45.K w f cs) : k45.C w (some ⟨b, 0, none⟩) 1 [f] := by
  refine ⟨rfl, by decide, fun _ => ⟨_, rfl, fun j p hj => ?_⟩⟩
  match j, hj with
  | 0, hj =>
    obtain rfl := Option.some.inj hj
    refine ⟨cs, k45.K_len h, h, fun i u hu => ?_⟩
    have h1 := blk_cell hs i
    rw [show (⟨b, 0, none⟩ : Addr).add (0 * k45.sz + i) = ⟨b, i, none⟩ by rw [add_at]; simp]
    exact h1.trans (by simpa using hu)
/-- Function j's code, lent: its header's cell, its blocks, the row without it. -/
structure Lent (g n c : Nat) (fs : List Fun) (j : Nat) (N : Nat) (oki : Nat → Prop) (B : Option Addr) (d : Nat) (W : World) : Prop where
  cell : W.cell? ⟨g, j * 4 + 3, none⟩ = some (.slice B (fs.getD j zF).f3.length d)
  frz : W.frozen? ⟨g, j * 4 + 3, none⟩ = false
  row : k52.R 52 W N oki (.slice B (fs.getD j zF).f3.length d) (fs.getD j zF).f3
  ne : ∀ k, oki k → k ≠ g
  lt : ∀ k, oki k → k < W.heap.size
  typ : ∃ cells, W.heap[g]? = some (.cells cells 45 (0, 0))
  hole : Kd.H k45 45 W N (fun k => True ∧ ¬ W.heap.size ≤ k) (.slice (some ⟨g, 0, none⟩) n c) fs j oki [.int .i64 (fs.getD j zF).f0, .int .i64 (fs.getD j zF).f1, .int .i64 (fs.getD j zF).f2, .slice B (fs.getD j zF).f3.length d]
theorem lend {g n c N j : Nat} {fs : List Fun} {W : World} (h : Kd.S k45 45 W N (fun _ => True) (.slice (some ⟨g, 0, none⟩) n c) fs) (hj : j < n) : ∃ oki B d, Lent g n c fs j N oki B d W := by
  have h2 : Kd.S k45 45 W N (fun k => True ∧ ¬ W.heap.size ≤ k) (.slice (some ⟨g, 0, none⟩) n c) fs := Kd.S_mono (Kd.S_bound h) (fun k hk => ⟨trivial, by have := hk.2.2.1; omega⟩)
  have hty := Kd.S_typed h g rfl
  obtain ⟨oki, cs, hl, hM, hcell, hfr, hok, hH⟩ := Kd.S_elem h2 zF (j : Int) (by omega) (by omega)
  rw [Int.toNat_natCast] at hM hcell hfr
  obtain ⟨v3, rfl, hR⟩ := k45_openM hM
  obtain ⟨B, d, rfl⟩ := Kd.R_slice hR
  exact ⟨oki, B, d, hcell 3 _ rfl, hfr 3, hR, fun k hk => (hok k hk).2, fun k hk => by have := (hok k hk).1.2; omega, hty, hH⟩
/-- Behind the append, the header stored. -/
theorem Lent.back {g n c N j : Nat} {fs : List Fun} {oki : Nat → Prop} {B : Option Addr} {d : Nat} {W W1 W2 : World} (h : Lent g n c fs j N oki B d W) (hj : j < n) (hb : Below W.heap.size W W1) (hg : W1.grownBy W2 (Value.slice B (fs.getD j zF).f3.length d).ownBlock) (more : List Ins) {v : Value}
    (hR : k52.R 52 W2 N (fun k => oki k ∨ W.heap.size ≤ k) v ((fs.getD j zF).f3 ++ more)) :
    Kd.S k45 45 (W2.setCell ⟨g, j * 4 + 3, none⟩ v) N (fun _ => True) (.slice (some ⟨g, 0, none⟩) n c) (fs.set j (growF (fs.getD j zF) more)) := by
  have hg0 : g < W.heap.size := by obtain ⟨cs, hc⟩ := h.typ; exact blk_lt hc
  have h1 := Kd.H_grown (Kd.H_more (Kd.H_below h.hole hb) (fun _ _ => trivial)) hg (fun k hk => .inl (h.row.1 k hk))
  obtain ⟨A2, c2, rfl⟩ := Kd.R_slice hR
  obtain ⟨h2, h3⟩ := Kd.H_seg h1 (by omega) (by omega) (seg := [.slice A2 ((fs.getD j zF).f3 ++ more).length c2]) (j := 3) (Nat.le_refl 4) (fun q hq => by obtain rfl := List.mem_singleton.1 hq; rfl)
  rw [Int.toNat_natCast] at h2 h3
  have hs : W2.setCells g (j * k45.sz + 3) [.slice A2 ((fs.getD j zF).f3 ++ more).length c2] = W2.setCell ⟨g, j * 4 + 3, none⟩ (.slice A2 ((fs.getD j zF).f3 ++ more).length c2) := rfl
  rw [hs] at h2 h3
  have hne : ∀ k, oki k ∨ W.heap.size ≤ k → k ≠ g := fun k hk => hk.elim (h.ne k) (fun h => by omega)
  have hR3 := Kd.R_step (w1 := W2.setCell ⟨g, j * 4 + 3, none⟩ (.slice A2 ((fs.getD j zF).f3 ++ more).length c2)) hR (fun k hk hlt => h3.block k hlt (fun e => hne k hk (by injection e)))
  have h4 := Kd.H_back h2 (x' := growF (fs.getD j zF) more) (k45_mkM _ N (fun k => oki k ∨ W.heap.size ≤ k) (growF (fs.getD j zF) more) hR3) (fun _ hk => hk)
  rw [Int.toNat_natCast] at h4
  exact h4
/-- What the append to function j's code wants, behind the copy of 'more'. -/
structure Grow (g n c : Nat) (fs : List Fun) (j : Nat) (N : Nat) (oki : Nat → Prop) (B : Option Addr) (d n3 : Nat) (W : World) (w W1 : World) (Q : Nat) (B4 : Option Addr) (d4 : Nat) (more : List Ins) : Prop where
  len : (fs.getD j zF).f3.length = n3
  row : k52.R 52 W1 N (fun k => oki k ∨ W.heap.size ≤ k) (.slice B n3 d) (fs.getD j zF).f3
  src : ReadsRow (k52.M W1 W.heap.size (fun k => True ∧ some k ≠ (Value.slice B4 more.length d4).ownBlock)) k52.sz W1 B4 more.length more
  old : ∀ k, (Value.slice B n3 d).ownBlock = some k → k < W.heap.size
  neQ : some Q ≠ (Value.slice B n3 d).ownBlock
  neg : some g ≠ (Value.slice B n3 d).ownBlock
  bel : Below N w W1
  bW : Below W.heap.size W W1
  nW : N ≤ W.heap.size
  max : (n3 + more.length) * 88 ≤ 140737488355328
theorem lent_grow {g n c N j d n3 Q d4 : Nat} {fs : List Fun} {oki : Nat → Prop} {B B4 : Option Addr} {W w W1 : World} {more : List Ins} {cs : Array Value} {t : TypeId} (h : Lent g n c fs j N oki B d W) (hl : (fs.getD j zF).f3.length = n3)
    (hs : Kd.S k52 52 W1 W.heap.size (fun _ => True) (.slice B4 more.length d4) more) (hb : Below W.heap.size W W1) (hB : Below N w W) (hQ : W.heap[Q]? = some (.cells cs t (0, 0))) (ht : 52 ≠ t) (hm : ((fs.getD j zF).f3.length + more.length) * 88 ≤ 140737488355328) (hN : N ≤ W.heap.size) :
    Grow g n c fs j N oki B d n3 W w W1 Q B4 d4 more := by
  obtain ⟨cg, hcg⟩ := h.typ
  have hr := h.row
  rw [hl] at hr hm
  obtain ⟨A', c', he, _, hrow⟩ := OwnRow.reads (Kd.S_R hs).2
  injection he with e1 _ _
  subst e1
  exact ⟨hl, Kd.R_mono (Kd.R_below hr hb) (fun _ hk => .inl hk), hrow, fun k hk => Kd.R_lt hr k hk, Kd.R_ne hr hQ ht, Kd.R_ne hr hcg (by decide), hB.trans (hb.mono hN), hb, hN, hm⟩
theorem Grow.step {ops : Array Oper} {o : Oper} {a : Act} {Q' : Exit → Act → World → Prop} {Kc : Act → World → Prop} {E : Prop} {g n c N j d n3 Q d4 : Nat} {fs : List Fun} {oki : Nat → Prop} {B B4 : Option Addr} {W w0 W1 : World} {more : List Ins}
    (h : Grow g n c fs j N oki B d n3 W w0 W1 Q B4 d4 more) (hg : o.guard = none) (s x : Operand) (ho : o.op = .call { callee := .builtin .append, args := #[s, x], argTypes := #[41, 41] }) (hs : a.eval s = .slice B n3 d) (hx : a.eval x = .slice B4 more.length d4)
    (hK : ∀ v1 w1, k52.R 52 w1 N (fun k => oki k ∨ W.heap.size ≤ k) v1 ((fs.getD j zF).f3 ++ more) → Below N w0 w1 → W1.grownBy w1 (Value.slice B n3 d).ownBlock → Kc (a.put o.dst v1) w1) :
    if Region.wanted o (yielded ops a.tmps) = true then Oper.wp Tryd.prog o a W1 Kc Q' else E := by
  have hw : Region.wanted o (yielded ops a.tmps) = true := by simp [Region.wanted, hg]
  have h1 := Kd.R_append_rows_step (P := Tryd.prog) (ops := ops) (o := o) (a := a) (Q := Q') (Kc := Kc) k52 (w0 := w0) (W := W1) N hw s x 41 52 (.agg #[.int .i64 0, .int .i64 0, .int .i64 0, .int .i64 0, .int .i64 0, .slice none 0 0, .slice none 0 0]) 88 ho Tryd.underlying41 info_ins rfl (by decide) (by decide) (.slice B n3 d) (fs.getD j zF).f3 more B4 more.length d4 (fun k => oki k ∨ W.heap.size ≤ k) (fun k => W.heap.size ≤ k) hs hx h.row h.src
    (fun x cs hp => k52.M_lower h.nW (k52.M_mono (fun k hk => hk.2.1) (k52.M_bound hp)))
    (fun k hk => ⟨.inr hk, fun e => by have := h.old k e.symm; omega⟩) (fun k hk => .inr (Nat.le_trans h.bW.size hk)) h.bel (Nat.le_trans h.nW h.bW.size) (by rw [h.len]; exact h.max) (fun v1 w1 hr hb hg hat => hK v1 w1 hr hb hg)
  rw [if_pos hw] at h1 ⊢
  exact h1
end Go.Proofs.YtcbcacbbnojdjaaDoor
namespace Go.Proofs.YtcbcacbbnojdjaaDoor
open Go.RowKit Go.Maps Go.Proofs.YtcbcacbbnojdjaaDoorW.PrintWords Go.Proofs.YtcbcacbbnojdjaaDoorW.PrintLast Go.Proofs.YtcbcacbbnojdjaaDoor.PSolveMonotone
set_option linter.unusedVariables false
set_option linter.unusedSimpArgs false
set_option maxRecDepth 100000 in
set_option maxHeartbeats 12800000 in
theorem grow_law (G : Int) (A : Option Addr) (c : Nat) (fs : List Fun) (F : Int) (MA : Option Addr) (more : List Ins) (mc : Nat) (SA : Option Addr) (xa : List Smm) (sl : Nat) (w : World) (hC : k45.C w A fs.length fs) (hcap : fs.length ≤ c) (hM : k52.C w MA more.length more) (hmcap : more.length ≤ mc) (hA : k33.C w SA xa.length xa) (hacap : xa.length ≤ sl)
    (hlf : fs.length ≤ 17592186044416) (hrf : ∀ f ∈ fs, ReachF f) (hrm : ReachF ⟨0, 0, 0, more⟩) (hla : xa.length ≤ 17592186044416) (hra : ∀ s ∈ xa, ReachS s) (htl : TellsAt w) :
    Calls Tryd.prog 4 #[.agg #[.int .i64 G, .slice A fs.length c, .int .i64 F, .slice MA more.length mc, .slice SA xa.length sl]] w fun e w' => e = .returned (.bool true) ∧ Below w.heap.size w w' := by
  obtain ⟨k1, r1, hk1, hr1⟩ := long_tells G fs hlf hrf
  obtain ⟨k2, r2, hk2, hr2⟩ := sums_tells xa hla hra
  obtain ⟨k3, r3, hk3, hr3⟩ := long_tells 0 [⟨0, 0, 0, more⟩] (by show 1 ≤ _; omega) (fun f hf => by obtain rfl := List.mem_singleton.1 hf; exact hrm)
  have HC := Lib.hid hC
  have HM := Lib.hid hM
  have HA := Lib.hid hA
  have HTL := Lib.hid htl
  have HR1 := Lib.hid hr1
  have HR2 := Lib.hid hr2
  have HR3 := Lib.hid hr3
  have HK1 := Lib.hid hk1
  have HK2 := Lib.hid hk2
  have HK3 := Lib.hid hk3
  have HRM := Lib.hid hrm
  clear hC hM hA htl hrf hra hrm hr1 hr2 hr3 hk1 hk2 hk3
  go_enter Tryd.func4, Tryd.ntmps4
  go_upto_region 5 with (fail)
  have hb1 := two_allocs w (.cells #[.int .i64 G, .slice A fs.length c, .int .i64 F, .slice MA more.length mc, .slice SA xa.length sl] 43) (.cells #[.int .i64 G, .slice A fs.length c] 24)
  have hn1 := alloc_second w (.cells #[.int .i64 G, .slice A fs.length c, .int .i64 F, .slice MA more.length mc, .slice SA xa.length sl] 43) #[.int .i64 G, .slice A fs.length c] 24
  have HLG := Lib.hid (fuguelaw08_long.calls k1 G A c fs r1 _ (Kd.C_below HC.out hb1) hcap HK1.out)
  obtain ⟨N, hN⟩ : ∃ N, w.heap.size = N := ⟨_, rfl⟩
  have HN := Lib.hid hN
  rw [hN] at hb1 hn1 ⊢
  clear hN
  generalize World.alloc _ _ = W1 at hb1 hn1 HLG ⊢
  have HB1 := Lib.hid hb1
  have HP1 := Lib.hid hn1
  have c0 := blk_cell hn1 0
  have c1 := blk_cell hn1 1
  simp only [List.getElem?_toArray, List.getElem?_cons_succ, List.getElem?_cons_zero] at c0 c1
  clear hb1 hn1
  go_wp2_with fail
  refine HLG.out.mono ?_
  rintro e W2 ⟨rfl, hb2⟩
  have hN1 : N + 1 < W1.heap.size := blk_lt HP1.out
  have HP2 := Lib.hid ((hb2.block _ hN1).trans HP1.out)
  have HB2 := Lib.hid (HB1.out.trans (hb2.mono (by omega)))
  clear hb2 hN1 HLG HB1 HP1 c0 c1
  cases r1 with
  | true =>
    go_wp2_with fail
    go_ret
    exact ⟨rfl, by rw [HN.out]; exact HB2.out⟩
  | false =>
    have HLA := Lib.hid (fuguelaw08_longSums.calls k2 SA sl xa r2 W2 (Kd.C_below HA.out (HN.out.symm ▸ HB2.out)) hacap HK2.out)
    go_wp2_with fail
    refine HLA.out.mono ?_
    rintro e W3 ⟨rfl, ⟨nd, rfl⟩⟩
    have HP3 := Lib.hid (show (W2.drewN nd).heap[N + 1]? = _ from HP2.out)
    have HB3 := Lib.hid (drewB HB2.out nd)
    clear HP2 HB2 HLA
    generalize W2.drewN nd = W3 at HP3 HB3 ⊢
    cases r2 with
    | true =>
      go_wp2_with fail
      go_ret
      exact ⟨rfl, by rw [HN.out]; exact HB3.out⟩
    | false =>
      have hb4 := HB3.out.trans ((below1 W3 (.cells #[.int .i64 0, .int .i64 0, .int .i64 0, .slice MA more.length mc] 45)).mono (by have := blk_lt HP3.out; omega))
      have hn4 := alloc_new W3 (.cells #[.int .i64 0, .int .i64 0, .int .i64 0, .slice MA more.length mc] 45)
      have hp4 := ((below1 W3 (.cells #[.int .i64 0, .int .i64 0, .int .i64 0, .slice MA more.length mc] 45)).block _ (blk_lt HP3.out)).trans HP3.out
      have HLM := Lib.hid (fuguelaw08_long.calls k3 0 (some ⟨W3.heap.size, 0, none⟩) 1 [⟨0, 0, 0, more⟩] r3 _ (one_C (cs := [.int .i64 0, .int .i64 0, .int .i64 0, .slice MA more.length mc]) hn4 (k45_mk _ ⟨0, 0, 0, more⟩ hmcap (Kd.C_below HM.out (HN.out.symm ▸ hb4)))) (Nat.le_refl 1) HK3.out)
      have HB4 := Lib.hid hb4
      have HP4 := Lib.hid hp4
      clear hb4 hn4 hp4 HP3 HB3
      go_wp2_with fail
      refine HLM.out.mono ?_
      rintro e W5 ⟨rfl, hb5⟩
      have HP5 := Lib.hid ((hb5.block _ (blk_lt HP4.out)).trans HP4.out)
      have HB5 := Lib.hid (HB4.out.trans (hb5.mono (by have := blk_lt HP4.out; omega)))
      clear hb5 HLM HP4 HB4
      cases r3 with
      | true =>
        go_wp2_with fail
        go_ret
        exact ⟨rfl, by rw [HN.out]; exact HB5.out⟩
      | false =>
        have HS1 := Lib.hid (HR1.out trivial)
        have HS2 := Lib.hid (HR2.out trivial)
        have HSM := Lib.hid ((HR3.out rfl).2 _ (List.mem_singleton.2 rfl))
        clear HR1 HR2 HR3 HK1 HK2 HK3 hlf hla
        have HLV := Lib.hid (lives_any W5 (HTL.out.below (HN.out.symm ▸ HB5.out)))
        go_wp2_with fail
        refine HLV.out.mono ?_
        rintro e W6 ⟨rfl, hb6⟩
        have HP6 := Lib.hid ((hb6.block _ (blk_lt HP5.out)).trans HP5.out)
        have HB6 := Lib.hid (HB5.out.trans (hb6.mono (by have := blk_lt HP5.out; omega)))
        clear hb6 HLV HB5 HP5
        have c0 := blk_cell HP6.out 0
        have c1 := blk_cell HP6.out 1
        simp only [List.getElem?_toArray, List.getElem?_cons_succ, List.getElem?_cons_zero] at c0 c1
        have hbw : Below w.heap.size w W6 := HN.out.symm ▸ HB6.out
        have HRA := Lib.hid (right_law G A c fs SA xa sl W6 (Kd.C_below HC.out hbw) hcap (Kd.C_below HA.out hbw) hacap HS1.out.1 HS2.out.1 (fun f hf => HS1.out.2 f hf) HS2.out.2)
        clear hbw
        go_wp2_with fail
        refine HRA.out.mono ?_
        rintro e W7 ⟨ra, rfl, hra, hb7⟩
        have HP7 := Lib.hid ((hb7.block _ (blk_lt HP6.out)).trans HP6.out)
        have HB7 := Lib.hid (HB6.out.trans (hb7.mono (by have := blk_lt HP6.out; omega)))
        have HRR := Lib.hid hra
        clear hb7 HRA HB6 HP6 c0 c1 hra
        cases ra with
        | false =>
          go_wp2_with fail
          go_ret
          exact ⟨rfl, by rw [HN.out]; exact HB7.out⟩
        | true =>
          have HPA := Lib.hid (HRR.out rfl)
          clear HRR
          have c1 := blk_cell HP7.out 1
          simp only [List.getElem?_toArray, List.getElem?_cons_succ, List.getElem?_cons_zero] at c1
          by_cases hF0 : F < 0
          · have d0 : decide (F < 0) = true := decide_eq_true hF0
            go_wp2_with fail
            go_ret
            exact ⟨rfl, by rw [HN.out]; exact HB7.out⟩
          · have d0 : decide (F < 0) = false := decide_eq_false hF0
            by_cases hF1 : (fs.length : Int) ≤ F
            · have d1 : decide (F ≥ (fs.length : Int)) = true := decide_eq_true hF1
              go_wp2_with fail
              go_ret
              exact ⟨rfl, by rw [HN.out]; exact HB7.out⟩
            · have d1 : decide (F ≥ (fs.length : Int)) = false := decide_eq_false hF1
              obtain ⟨j, rfl⟩ : ∃ j : Nat, F = (j : Int) := ⟨F.toNat, by omega⟩
              have hj : j < fs.length := by omega
              clear hF0 hF1
              have HCP := Lib.hid (copyProg_any G A c fs W7 (Kd.C_below HC.out (HN.out.symm ▸ HB7.out)) hcap HS1.out.1 (fun f hf => HS1.out.2 f hf))
              go_upto_region 10 with (fail)
              clear d0 d1
              have c0 := blk_cell HP7.out 0
              simp only [List.getElem?_toArray, List.getElem?_cons_succ, List.getElem?_cons_zero] at c0
              go_wp2_with fail
              refine HCP.out.mono ?_
              rintro e W8 ⟨A2, c2, rfl, hs8, hb8⟩
              clear HCP c0 c1
              have hlt7 : N + 1 < W7.heap.size := blk_lt HP7.out
              have hb9 := below1 W8 (.cells #[.int .i64 G, .slice A2 fs.length c2] 24)
              have HP9 := Lib.hid ((hb9.block _ (blk_lt ((hb8.block _ hlt7).trans HP7.out))).trans ((hb8.block _ hlt7).trans HP7.out))
              have HQ9 := Lib.hid (alloc_new W8 (.cells #[.int .i64 G, .slice A2 fs.length c2] 24))
              have hs9 := Kd.S_lower (Kd.S_below hs8 hb9) (by omega : N ≤ W7.heap.size)
              have HB9 := Lib.hid ((HB7.out.trans (hb8.mono (by omega))).trans (hb9.mono (by have := hb8.size; omega)))
              obtain ⟨g, cg, hge, hgN, hgl, hgc⟩ := Kd.S_form hs9 (by omega)
              injection hge with hA2 _ hcg
              subst hA2
              subst hcg
              have HS9 := Lib.hid hs9
              have hQN : N + 1 < W8.heap.size := by have := hb8.size; omega
              have HQN := Lib.hid hQN
              clear hs8 hb8 hb9 hs9 hlt7 HP7 HB7 hgl hgN hQN hgc
              go_upto_region 11 with (fail)
              obtain ⟨Q, hQ⟩ : ∃ Q, W8.heap.size = Q := ⟨_, rfl⟩
              rw [hQ] at HQ9 HQN
              try rw [hQ]
              clear hQ
              generalize World.alloc _ _ = W9 at HP9 HQ9 HS9 HB9 ⊢
              obtain ⟨oki, B, d3, hle⟩ := lend HS9.out hj
              have HLE := Lib.hid hle
              obtain ⟨kc, hkc⟩ := (ev_copyCode more HSM.out.1 HSM.out.2).rounds
              have HCC := Lib.hid (fun (X : World) (hX : Below N w X) => fugueref00_CopyCode.calls kc MA mc more more X (Kd.C_below HM.out (HN.out.symm ▸ hX)) hmcap hkc)
              have q1 := blk_cell HQ9.out 1
              have q3 := hle.cell
              simp only [List.getElem?_toArray, List.getElem?_cons_succ, List.getElem?_cons_zero] at q1
              have hbd : (j : Int) < (fs.length : Int) := by omega
              have hln : ((fs.getD j zF).f3.length + more.length) * 88 ≤ 140737488355328 := by
                have h1 := (HS1.out.2 _ (getD_mem fs j zF hj)).1
                have h2 : more.length ≤ 2147483647 := HSM.out.1
                omega
              have HLN := Lib.hid hln
              have HNW := Lib.hid (show N ≤ W9.heap.size by have := blk_lt HQ9.out; have := HQN.out; omega)
              clear hle hkc hln HS9
              obtain ⟨n3, hn3⟩ : ∃ n, (fs.getD j zF).f3.length = n := ⟨_, rfl⟩
              rw [hn3] at q3
              have HN3 := Lib.hid hn3
              clear hn3
              have y1 := q1
              have y3 := q3
              go_region_held3 (fun w' => w'.cell? ⟨Q, 1, none⟩ = some (.slice (some ⟨g, 0, none⟩) fs.length c2) ∧ w'.cell? ⟨g, j * 4 + 3, none⟩ = some (.slice B n3 d3))
                (first | (go_keep; done) | exact ⟨k1, k3⟩)
                (first | (go_at_call 13; refine (HCC.out _ (by first | exact HB9.out | exact below_drew HB9.out)).mono ?_; rintro e w10 ⟨vm, rfl, hsm, hb10⟩; obtain ⟨B4, d4, hvm⟩ := Kd.S_slice hsm; subst hvm; have hb11 : Below W9.heap.size W9 w10 := Below.trans (below_drew (Below.refl _ _)) hb10; have k1 := below_cells hb11 _ _ y1; have k3 := below_cells hb11 _ _ y3; have HM10 := Lib.hid (show Kd.S k52 52 w10 W9.heap.size (fun _ => True) (.slice B4 more.length d4) more from hsm); have HB10 := Lib.hid hb11; have HG := Lib.hid (lent_grow HLE.out HN3.out hsm hb11 HB9.out HQ9.out (by decide) HLN.out HNW.out); clear hsm hb10 hb11) | (refine HG.out.step (by rfl) (.tmp 66) (.tmp 68) (by rfl) (by rfl) (by rfl) ?_; intro v1 w11 hr11 hb11 hg11; have z1 := k1; have z3 := k3; clear k1 k3; have k1 := cell_grown hg11 z1 HG.out.neQ; have k3 := cell_grown hg11 z3 HG.out.neg; clear z1 z3; have HR11 := Lib.hid hr11; have HB11 := Lib.hid hb11; have HG11 := Lib.hid hg11; clear hr11 hb11 hg11))
              rename_i hHeld
              clear hHeld k3 q1 q3 y1 y3
              have hsg := HLE.out.back hj HB10.out (by rw [HN3.out]; exact HG11.out) more HR11.out
              have hp10 := (HB10.out.block _ (blk_lt HP9.out)).trans HP9.out
              have hp11 := (HG11.out.block _ (blk_lt hp10) (Kd.R_ne HG.out.row hp10 (by decide))).trans hp10
              have hq10 := (HB10.out.block _ (blk_lt HQ9.out)).trans HQ9.out
              have hq11 := (HG11.out.block _ (blk_lt hq10) HG.out.neQ).trans hq10
              obtain ⟨cg, hcg⟩ := HLE.out.typ
              have hg10 := (HB10.out.block _ (blk_lt hcg)).trans hcg
              have hg11 := (HG11.out.block _ (blk_lt hg10) HG.out.neg).trans hg10
              have z3 : w11.frozen? ⟨g, j * 4 + 3, none⟩ = false := blk_frozen hg11 (j * 4 + 3)
              have hNg : N ≤ g := Kd.S_base hsg g rfl
              obtain ⟨A5, c5, rfl⟩ := Kd.R_slice HR11.out
              obtain ⟨n5, hn5⟩ : ∃ n, ((fs.getD j zF).f3 ++ more).length = n := ⟨_, rfl⟩
              rw [hn5] at hsg ⊢
              have k3 : w11.cell? ⟨g, j * 4 + 3, none⟩ = some (.slice B n3 d3) := by rw [HG11.out.cell_far _ (blk_lt hg10) HG.out.neg, HB10.out.cell (blk_lt hcg), HLE.out.cell, HN3.out]
              have hgQ : g ≠ Q := by rintro rfl; rw [hg11] at hq11; injection hq11 with h; injection h with _ h _; exact absurd h (by decide)
              have hgP : g ≠ N + 1 := by rintro rfl; rw [hg11] at hp11; injection hp11 with h; injection h with _ h _; exact absurd h (by decide)
              have HP12 := Lib.hid ((Below.heap_setCell w11 ⟨g, j * 4 + 3, none⟩ (.slice A5 n5 c5) (N + 1) (fun e => hgP e.symm)).trans hp11)
              have HQ12 := Lib.hid ((Below.heap_setCell w11 ⟨g, j * 4 + 3, none⟩ (.slice A5 n5 c5) Q (fun e => hgQ e.symm)).trans hq11)
              have HB12 := Lib.hid (HB11.out.setCell (p := ⟨g, j * 4 + 3, none⟩) hNg (.slice A5 n5 c5))
              have HS12 := Lib.hid hsg
              clear hsg hp10 hp11 hq10 hq11 hg10 hg11 hcg hNg hgQ hgP HP9 HQ9 HB9 HLE HCC HM10 HB10 HG HR11 HB11 HG11
              go_upto_region 13 with (fail)
              clear k1 k3 z3 hn5 HN3 HLN HNW hbd HRM
              generalize World.setCell _ _ _ = w12 at HP12 HQ12 HB12 HS12 ⊢
              obtain ⟨f, hf⟩ : ∃ f, f = fs.getD j zF := ⟨_, rfl⟩
              obtain ⟨gs, hgs⟩ : ∃ gs, gs = fs.set j (growF f more) := ⟨_, rfl⟩
              have hgl : gs.length = fs.length := by rw [hgs, List.length_set]
              obtain ⟨k4, r4, hk4, hr4⟩ := long_tells G gs (by have := HS1.out.1; omega) (by rw [hgs, hf]; exact reach_grow j more hj HS1.out.2 HSM.out)
              have hs12 := HS12.out
              rw [← hf, ← hgs] at hs12
              obtain ⟨-, hgc0, hGC⟩ := Kd.S_reads' hs12
              have hgc : gs.length ≤ c2 := by omega
              clear hgc0
              have HGS := Lib.hid (And.intro hf (And.intro hgs (And.intro hgl hgc)))
              have HGC := Lib.hid hGC
              have hlg := fuguelaw08_long.calls k4 G (some ⟨g, 0, none⟩) c2 gs r4 w12 hGC hgc hk4
              rw [hgl] at hlg
              have HLG := Lib.hid hlg
              have HR4 := Lib.hid hr4
              have c0 := blk_cell HQ12.out 0
              have c1 := blk_cell HQ12.out 1
              simp only [List.getElem?_toArray, List.getElem?_cons_succ, List.getElem?_cons_zero] at c0 c1
              clear hlg hGC hs12 hgc hgl hgs hf hk4 hr4 HS12
              go_wp2_with fail
              refine HLG.out.mono ?_
              rintro e w13 ⟨rfl, hb13⟩
              have HP13 := Lib.hid ((hb13.block _ (blk_lt HP12.out)).trans HP12.out)
              have HQ13 := Lib.hid ((hb13.block _ (blk_lt HQ12.out)).trans HQ12.out)
              have HGC13 := Lib.hid (Kd.C_below HGC.out hb13)
              have HB13 := Lib.hid (HB12.out.trans (hb13.mono (by have := blk_lt HP12.out; omega)))
              clear hb13 HLG HP12 HQ12 HGC HB12 c0 c1
              cases r4 with
              | true =>
                go_wp2_with fail
                go_ret
                exact ⟨rfl, by rw [HN.out]; exact HB13.out⟩
              | false =>
                have HSG := Lib.hid (HR4.out rfl)
                have hck := checkR_any G (some ⟨g, 0, none⟩) c2 gs w13 HGC13.out HSG.out.1 HSG.out.2
                rw [HGS.out.2.2.1] at hck
                have HCK := Lib.hid hck
                have c0 := blk_cell HQ13.out 0
                have c1 := blk_cell HQ13.out 1
                simp only [List.getElem?_toArray, List.getElem?_cons_succ, List.getElem?_cons_zero] at c0 c1
                clear hck HR4
                go_wp2_with fail
                refine HCK.out.mono ?_
                rintro e w14 ⟨rfl, hb14⟩
                have HP14 := Lib.hid ((hb14.block _ (blk_lt HP13.out)).trans HP13.out)
                have HQ14 := Lib.hid ((hb14.block _ (blk_lt HQ13.out)).trans HQ13.out)
                have HGC14 := Lib.hid (Kd.C_below HGC13.out hb14)
                have HB14 := Lib.hid (HB13.out.trans (hb14.mono (by have := blk_lt HP13.out; omega)))
                clear hb14 HCK HP13 HQ13 HGC13 HB13 c0 c1
                obtain ⟨q, hq⟩ : ∃ q, chk G gs = q := ⟨_, rfl⟩
                rw [hq]
                have HQC := Lib.hid hq
                clear hq
                by_cases hq0 : q = 0
                · subst hq0
                  have HALL := Lib.hid (chk_of HPA.out.1)
                  have HALG := Lib.hid (chk_of HQC.out)
                  have HSA := Lib.hid (show ShapesOk fs xa from ⟨HPA.out.2.1, HPA.out.2.2⟩)
                  have HSG2 := Lib.hid (show ShapesOk gs xa by rw [HGS.out.2.1, HGS.out.1]; exact HSA.out.grow j hj more)
                  have HGJ := Lib.hid (show growF f more = gs.getD j zF by rw [HGS.out.2.1, getD_setF fs j j _ hj, if_pos rfl])
                  obtain ⟨n, hn⟩ : ∃ n, locsF f = n := ⟨_, rfl⟩
                  obtain ⟨m, hm⟩ : ∃ m, locsF (growF f more) = m := ⟨_, rfl⟩
                  obtain ⟨p, hp⟩ : ∃ p, f.f0.toNat = p := ⟨_, rfl⟩
                  obtain ⟨r, hr⟩ : ∃ r, f.f1.toNat = r := ⟨_, rfl⟩
                  have hd := HALL.out.hd j hj
                  rw [← HGS.out.1] at hd
                  have hp8 : p ≤ 8 := by have := hd.le8; omega
                  have hr4 : r ≤ 4 := by have := hd.r1; omega
                  have hn8 : n ≤ 8192 := by have := calls_news f.f3 f.f3.length; have := hd.r1; have := hd.v1; have := hd.n1; unfold locsF at hn; omega
                  have hnm : n ≤ m := by rw [← hn, ← hm]; exact locsF_grow f more
                  have hbw : Below w.heap.size w w14 := by rw [HN.out]; exact HB14.out
                  have c0 := blk_cell HP14.out 0
                  have c1 := blk_cell HP14.out 1
                  simp only [List.getElem?_toArray, List.getElem?_cons_succ, List.getElem?_cons_zero] at c0 c1
                  have HF1 := Lib.hid (func_out G A c fs j SA xa sl w14 (Kd.C_below HC.out hbw) hcap (Kd.C_below HA.out hbw) hacap HALL.out HSA.out (fun f hf => HS1.out.2 f hf) hj (HTL.out.below hbw) f HGS.out.1 n p r hn hp hr)
                  have HFF := Lib.hid (And.intro hn (And.intro hm (And.intro hp hr)))
                  clear hbw hn hm hp hr hd
                  go_wp2_with fail
                  refine HF1.out.mono ?_
                  rintro e w3 ⟨b1, esc, hb1, ob1, bs1, hs, rows, rfl, hBo, hel, hFI, hS, hhl, hwl, hrl, hbb, hB3⟩
                  clear c0 c1
                  go_upto_region 16 with (fail)
                  have hb4 := below1 w3 (.cells #[hdr p hb1, hdr p ob1] 33)
                  have hn4 := alloc_new w3 (.cells #[hdr p hb1, hdr p ob1] 33)
                  have h34 := hB3.trans (hb4.mono hB3.size)
                  have HBO := Lib.hid (hBo.far (hb4.block _ (blk_lt hBo)))
                  have HSU := Lib.hid (hS.below hb4)
                  have HEL := Lib.hid hel
                  have HFI := Lib.hid hFI
                  have HLL := Lib.hid (And.intro hhl (And.intro hwl hrl))
                  have HP4 := Lib.hid ((h34.block _ (blk_lt HP14.out)).trans HP14.out)
                  have HQ4 := Lib.hid ((h34.block _ (blk_lt HQ14.out)).trans HQ14.out)
                  have HGC4 := Lib.hid (Kd.C_below HGC14.out h34)
                  have HBx := Lib.hid (HB14.out.trans (h34.mono (by have := blk_lt HP14.out; omega)))
                  obtain ⟨m1, hm1⟩ : ∃ m1, w3.heap.size = m1 := ⟨_, rfl⟩
                  rw [hm1] at hn4 ⊢
                  clear hm1 hBo hel hFI hS hhl hwl hrl hbb hB3 hb4 h34 HB14 HP14 HQ14 HGC14 HF1
                  generalize World.alloc _ _ = w4 at hn4 HBO HSU HBx HP4 HQ4 HGC4 ⊢
                  have HM1 := Lib.hid hn4
                  have c0 := blk_cell HQ4.out 0
                  have c1 := blk_cell HQ4.out 1
                  simp only [List.getElem?_toArray, List.getElem?_cons_succ, List.getElem?_cons_zero] at c0 c1
                  have hbw : Below w.heap.size w w4 := by rw [HN.out]; exact HBx.out
                  have hf2 := func_out G (some ⟨g, 0, none⟩) c2 gs j SA xa sl w4 HGC4.out HGS.out.2.2.2 (Kd.C_below HA.out hbw) hacap HALG.out HSG2.out (fun f hf => HSG.out.2 f hf) (by rw [HGS.out.2.2.1]; exact hj) (HTL.out.below hbw) (growF f more) HGJ.out m p r HFF.out.2.1 HFF.out.2.2.1 HFF.out.2.2.2
                  rw [HGS.out.2.2.1] at hf2
                  have HF2 := Lib.hid hf2
                  clear hbw hn4 hf2
                  go_wp2_with fail
                  refine HF2.out.mono ?_
                  rintro e w5 ⟨b2, esc2, hb2, ob2, bs2, hs2, rows2, rfl, hBo, hel, hFI, hS, hhl, hwl, hrl, hbb, hB3⟩
                  clear c0 c1
                  go_upto_region 17 with (fail)
                  have hb6 := below1 w5 (.cells #[hdr p hb2, hdr p ob2] 33)
                  have hn6 := alloc_new w5 (.cells #[hdr p hb2, hdr p ob2] 33)
                  have h46 := hB3.trans (hb6.mono hB3.size)
                  have HBO2 := Lib.hid (hBo.far (hb6.block _ (blk_lt hBo)))
                  have HSU2 := Lib.hid (hS.below hb6)
                  have HEL2 := Lib.hid hel
                  have HLL2 := Lib.hid (And.intro hhl (And.intro hwl hrl))
                  have HSM2 := Lib.hid (func_grow j hj HGS.out.1 more HALL.out (by rw [← HGS.out.2.1]; exact HALG.out) HSA.out HFI.out hFI)
                  have HBO1 := Lib.hid (HBO.out.far (h46.block _ (blk_lt HBO.out)))
                  have HSU1 := Lib.hid (HSU.out.below h46)
                  have HM6 := Lib.hid ((h46.block _ (blk_lt HM1.out)).trans HM1.out)
                  have HBy := Lib.hid (HBx.out.trans (h46.mono (by have := blk_lt HP4.out; omega)))
                  have HNy := Lib.hid (show N ≤ w4.heap.size by have := blk_lt HP4.out; omega)
                  obtain ⟨m2, hm2⟩ : ∃ m2, w5.heap.size = m2 := ⟨_, rfl⟩
                  rw [hm2] at hn6 ⊢
                  clear hm2 hBo hel hFI hS hhl hwl hrl hbb hB3 hb6 h46 HBO HSU HM1 HBx HF2 HFI HP4 HQ4 HGC4
                  generalize World.alloc _ _ = w6 at hn6 HBO2 HSU2 HBO1 HSU1 HM6 HBy ⊢
                  have s0 := blk_cell HM6.out 0
                  have s1 := blk_cell HM6.out 1
                  have t0 := blk_cell hn6 0
                  have t1 := blk_cell hn6 1
                  simp only [List.getElem?_toArray, List.getElem?_cons_succ, List.getElem?_cons_zero] at s0 s1 t0 t1
                  have hq1 := HSU2.out.heapC (by rw [HLL2.out.1]; exact hp8)
                  have hq2 := HSU2.out.rowsC (by rw [HLL2.out.2.1]; exact hp8) hr4 HLL2.out.2.2
                  have hq3 := HSU1.out.heapC (by rw [HLL.out.1]; exact hp8)
                  have hq4 := HSU1.out.rowsC (by rw [HLL.out.2.1]; exact hp8) hr4 HLL.out.2.2
                  rw [HLL2.out.1] at hq1
                  rw [HLL2.out.2.1] at hq2
                  rw [HLL.out.1] at hq3
                  rw [HLL.out.2.1] at hq4
                  have hl1 := HLL.out.1
                  have hl2 := HLL.out.2.1
                  have hl3 := HLL2.out.2.1
                  have HAB := above_good p (some ⟨hb2, 0, none⟩) p hs2 (some ⟨ob2, 0, none⟩) p rows2 (some ⟨hb1, 0, none⟩) p hs (some ⟨ob1, 0, none⟩) p rows w6 hq1 hq2 hq3 hq4 (by omega) (fun i hi => by have := HLL2.out.2.2 i (by omega); have := HLL.out.2.2 i (by omega); omega) (fun i hi => HSM2.out.h i (by omega)) (fun i hi q hq => HSM2.out.r i (by omega) q (by have := HSM2.out.w i (by omega); omega))
                  have HAC := Lib.hid HAB
                  have hdl : decide ((m : Int) < (n : Int)) = false := decide_eq_false (by omega)
                  clear HAB hq1 hq2 hq3 hq4 hl1 hl2 hl3 hn6
                  go_wp2_with fail
                  refine HAC.out.mono ?_
                  rintro e w7 ⟨rfl, hb7⟩
                  have HBO3 := Lib.hid (HBO2.out.far (hb7.block _ (blk_lt HBO2.out)))
                  have HBO4 := Lib.hid (HBO1.out.far (hb7.block _ (blk_lt HBO1.out)))
                  have HBz := Lib.hid (HBy.out.trans (hb7.mono (by have := HBy.out.size; have := HN.out; omega)))
                  clear hb7 HAC s0 s1 t0 t1 HBO2 HBO1 HSU2 HSU1 HM6 HBy hdl
                  go_wp2_with fail
                  go_loopw [16] (fun i wr => ∃ x : Nat, x ≤ n ∧ i = .int .i64 x ∧ Below w7.heap.size w7 wr) (fun i _ => n - (intOf i).toNat)
                  case atStart => exact ⟨0, by omega, rfl, Below.refl _ _⟩
                  case round =>
                    obtain ⟨x, hx, rfl, hb⟩ := hrel
                    have HBq := Lib.hid hb
                    clear hb
                    by_cases hxl : x < n
                    · have hxm : x < m := by omega
                      have hE1 := (HBO4.out.far (HBq.out.block _ (blk_lt HBO4.out))).at_ (i := x) (by rw [HEL.out]; exact hxl)
                      have hE2 := (HBO3.out.far (HBq.out.block _ (blk_lt HBO3.out))).at_ (i := x) (by rw [HEL2.out]; exact hxm)
                      have hee := HSM2.out.e x
                      obtain ⟨q1, hq1⟩ : ∃ q, esc.getD x false = q := ⟨_, rfl⟩
                      obtain ⟨q2, hq2⟩ : ∃ q, esc2.getD x false = q := ⟨_, rfl⟩
                      rw [hq1] at hE1
                      rw [hq2] at hE2
                      rw [hq1, hq2] at hee
                      clear hq1 hq2
                      cases q1 with
                      | true =>
                        obtain rfl := hee rfl
                        clear hee
                        go_wp2_with fail
                        go_roundw
                        case rel => exact ⟨x + 1, by omega, by go_num, HBq.out⟩
                        case measure => simp [intOf]; omega
                      | false =>
                        clear hee
                        go_wp2_with fail
                        go_roundw
                        case rel => exact ⟨x + 1, by omega, by go_num, HBq.out⟩
                        case measure => simp [intOf]; omega
                    · obtain rfl : x = n := by omega
                      go_wp2_with fail
                      go_ret
                      refine ⟨rfl, ?_⟩
                      rw [HN.out]
                      exact HBz.out.trans (HBq.out.mono (by have := HBz.out.size; have := HN.out; omega))
                · have hd : (q != 0) = true := by simpa using hq0
                  have hd2 : (q == 0) = false := by simpa using hq0
                  go_wp2_with fail
                  go_ret
                  exact ⟨rfl, by rw [HN.out]; exact HB14.out⟩
end Go.Proofs.YtcbcacbbnojdjaaDoor
