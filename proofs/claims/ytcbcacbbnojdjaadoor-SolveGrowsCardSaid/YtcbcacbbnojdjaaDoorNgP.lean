/-
  Part P of what the law's proof needs: walks of the program's functions and the plain laws of what they tell. No condition.
-/
import Derived.Test.YtcbcacbbnojdjaaDoorNgK
import Derived.Test.YtcbcacbbnojdjaaDoorNgL
import Derived.Test.YtcbcacbbnojdjaaDoorNgM
import Derived.Deep.AppendLies
import Derived.Deep.RegionHeld3
namespace Go.Proofs.YtcbcacbbnojdjaaDoor
open Go.RowKit Go.Proofs.YtcbcacbbnojdjaaDoorW.PrintWords Go.Proofs.YtcbcacbbnojdjaaDoor.PSolveMonotone
set_option linter.unusedVariables false
set_option linter.unusedSimpArgs false
def REd (e : Edg) (cs : List Value) : Prop := cs = [.int .i64 e.f0, .int .i64 e.f1, .int .i64 e.f2]
/-- The list's box; what has been gathered. -/
def GotAt (w : World) (sc lb : Nat) (pre : List Edg) (W : World) : Prop :=
  ∃ v, W.heap[lb]? = some (.cells #[v] 60 (0, 0)) ∧ OwnRow REd 90 3 W (sc + 1) v pre ∧ Below w.heap.size w W
theorem ownRow_kept {w W W' : World} {sc : Nat} {α : Type} {R : α → List Value → Prop} {e : TypeId} {size : Nat} {v : Value} {ps : List α} (h : OwnRow R e size W (sc + 1) v ps) (hk : ∀ k, v.ownBlock = some k → W'.heap[k]? = W.heap[k]?) : OwnRow R e size W' (sc + 1) v ps := by
  obtain ⟨inner, o, r⟩ := h
  exact ⟨inner, own_move o hk, r⟩
theorem GotAt.kept {w W W' : World} {sc lb : Nat} {pre : List Edg} (h : GotAt w sc lb pre W) (hs : w.heap.size ≤ sc) (hlt : sc < lb) (hk : Kept sc W W') : GotAt w sc lb pre W' := by
  obtain ⟨v, hb, hr, hB⟩ := h
  refine ⟨v, (hk.block _ (blk_lt hb) (by omega)).trans hb, ?_, hk.below hB (Nat.le_refl _) hs⟩
  refine ownRow_kept (w := W) hr fun k e => ?_
  obtain ⟨inner, o, r⟩ := hr
  exact hk.block _ (own_lt o k e) (by have := own_base o k e; omega)
theorem GotAt.put {w W : World} {sc lb : Nat} {pre : List Edg} {k : Nat} {o o' : Obj} (h : GotAt w sc lb pre W) (hk : w.heap.size ≤ k) (ho : W.heap[k]? = some o) (hc : o.isCells = false) : GotAt w sc lb pre (W.putObj k o') := by
  obtain ⟨v, hb, hr, hB⟩ := h
  have hne : ∀ {j : Nat} {cs : Array Value} {t : TypeId}, W.heap[j]? = some (.cells cs t (0, 0)) → (W.putObj k o').heap[j]? = some (.cells cs t (0, 0)) := fun {j cs t} hj => by
    have hn : k ≠ j := by rintro rfl; rw [ho] at hj; injection hj with hj; subst hj; cases hc
    exact (World.putObj_heap_other (by omega)).trans hj
  refine ⟨v, hne hb, ?_, hB.trans (put_below hk ho)⟩
  refine ownRow_kept (w := W) hr fun j e => ?_
  obtain ⟨inner, own, r⟩ := hr
  obtain ⟨cells, hj⟩ := own_typed own j e
  rw [hj]
  exact hne hj
/-- One edge more. -/
theorem GotAt.more {w W w1 : World} {sc lb : Nat} {pre : List Edg} {e : Edg} {v v' : Value} {inner : List Value} {tmp : Obj} (hs : w.heap.size ≤ sc) (hlt : sc < lb) (hb : W.heap[lb]? = some (.cells #[v] 60 (0, 0))) (ho : W.ownsRow (sc + 1) 90 3 v pre.length inner) (hr : Reps REd 3 pre inner) (hB : Below w.heap.size w W)
    (hown : w1.ownsRow (sc + 1) 90 3 v' (pre.length + 1) (inner ++ [.int .i64 e.f0, .int .i64 e.f1, .int .i64 e.f2])) (hg : (W.alloc tmp).grownBy w1 v.ownBlock) :
    KeepsOthers W (w1.setCell ⟨lb, 0, none⟩ v') ∧ GotAt w sc lb (pre ++ [e]) (w1.setCell ⟨lb, 0, none⟩ v') ∧ Below (sc + 1) W (w1.setCell ⟨lb, 0, none⟩ v') ∧ Stay W (w1.setCell ⟨lb, 0, none⟩ v') := by
  have hg2 : W.grownBy w1 v.ownBlock := World.grownBy.trans (World.grownBy_alloc W _ _) hg
  have hl := blk_lt hb
  have h1b : w1.heap[lb]? = some (.cells #[v] 60 (0, 0)) := (hg2.block _ hl (own_ne ho hb (by decide))).trans hb
  have hbs : ∀ k, v.ownBlock = some k → sc + 1 ≤ k := fun k e => own_base ho k e
  refine ⟨KeepsOthers.trans (KeepsOthers.of_grownBy hg2 fun j o e hj => ?_) (KeepsOthers.setCell _ _ _), ⟨v', blk_put h1b 0 _ rfl, ⟨inner ++ [.int .i64 e.f0, .int .i64 e.f1, .int .i64 e.f2], by rw [List.length_append, List.length_singleton]; exact own_setCell hown (p := ⟨lb, 0, none⟩) (own_ne hown h1b (by decide)) _, ?_⟩, ?_⟩, ?_, ?_⟩
  · obtain ⟨cells, hc⟩ := own_typed ho j e
    rw [hc] at hj; injection hj with hj; subst hj; rfl
  · exact hr.snoc rfl rfl
  · exact (hB.grown hg2 hB.size (fun k e => by have := hbs k e; omega)).setCell (p := ⟨lb, 0, none⟩) (show w.heap.size ≤ lb by omega) _
  · exact ((Below.refl (sc + 1) W).grown hg2 (by omega) hbs).setCell (p := ⟨lb, 0, none⟩) (show sc + 1 ≤ lb by omega) _
  · intro k c t hk n1 n2
    have h2 : w1.heap[k]? = some (.cells c t (0, 0)) := (hg2.block _ (blk_lt hk) (own_ne ho hk (Ne.symm n2))).trans hk
    refine blk_far h2 (p := ⟨lb, 0, none⟩) ?_ _
    rintro rfl
    rw [hb] at hk
    injection hk with hk
    injection hk with _ hk _
    exact n1 hk.symm
theorem got_edges {w W : World} {sc lb : Nat} {xs : List Edg} (h : GotAt w sc lb xs W) (hs : w.heap.size ≤ sc) : ∃ v, W.heap[lb]? = some (.cells #[v] 60 (0, 0)) ∧ k90.R 90 W w.heap.size (fun _ => True) v xs ∧ Below w.heap.size w W := by
  obtain ⟨v, hb, hr, hB⟩ := h
  refine ⟨v, hb, ⟨fun _ _ => trivial, ?_⟩, hB⟩
  exact (hr.lower (by omega)).imp_ (fun p c hp => by rw [hp]; exact k90_mkM _ _ _ p)
theorem R_put_other {α : Type} {d : Kd α} {e base : Nat} {ok : Nat → Prop} {W : World} {v : Value} {xs : List α} {k : Nat} {o o' : Obj} (h : d.R e W base ok v xs) (ho : W.heap[k]? = some o) (hc : o.isCells = false) : d.R e (W.putObj k o') base ok v xs := by
  refine Kd.R_mono (Kd.R_move (Kd.R_bound h) fun j hj => ?_) (fun _ hj => hj.1)
  obtain ⟨_, _, _, q, _, cells, hq⟩ := hj
  refine World.putObj_heap_other ?_
  rintro rfl
  rw [ho] at hq
  injection hq with hq
  subst hq
  cases hc
end Go.Proofs.YtcbcacbbnojdjaaDoor
namespace Go.Proofs.YtcbcacbbnojdjaaDoor
open Go.RowKit Go.Shelf Go.Maps Go.Proofs.YtcbcacbbnojdjaaDoorW.PrintWords Go.Proofs.YtcbcacbbnojdjaaDoorW.PrintLast Go.Proofs.YtcbcacbbnojdjaaDoor.PSolveMonotone
set_option linter.unusedVariables false
set_option linter.unusedSimpArgs false
attribute [local go_sem] Oper.semAt_some
theorem first_is (f : Fun) (h1 : 0 ≤ f.f1 ∧ f.f1 ≤ 4) (h2 : 0 ≤ f.f2 ∧ f.f2 ≤ 255) : flow_first.f f.f0 f.f1 f.f2 f.f3 = some (1 + f.f1 + f.f2) := by
  unfold flow_first.f
  congr 1
  unfold wrap64
  omega
theorem edges40_any (sc : Nat) (w : World) : Calls Tryd.prog 40 #[.pointer (some ⟨sc, 0, none⟩)] w fun e w' => e = .returned (.func (.func 52) #[] #[.pointer (some ⟨w.heap.size, 0, none⟩)]) ∧ w' = w.alloc (.cells #[.pointer (some ⟨sc, 0, none⟩)] 83) := by
  have hmf : ∀ (fn : Fn) (first cap : Array Value) (w : World), (Instr.makeFunc fn first cap).run Tryd.prog w = .ok (.func fn first cap) w := fun _ _ _ _ => rfl
  go_enter Tryd.func40, Tryd.ntmps40
  go_wp2_with fail
  go_ret
  exact ⟨rfl, rfl⟩
set_option maxRecDepth 100000 in
set_option maxHeartbeats 12800000 in
theorem edges_any (G : Int) (A : Option Addr) (c : Nat) (fs : List Fun) (fi : Int) (SA : Option Addr) (sums : List Smm) (sl : Nat) (w : World) (hC : k45.C w A fs.length fs) (hcap : fs.length ≤ c) (hS : k33.C w SA sums.length sums) (hscap : sums.length ≤ sl) (hlen : fs.length ≤ 2147483647)
    (hcode : ∀ f ∈ fs, f.f3.length ≤ 2147483646 ∧ ∀ x ∈ f.f3, x.f5.length ≤ 2147483647 ∧ x.f6.length ≤ 2147483647) (hsl : sums.length = fs.length) (hsm : ∀ s ∈ sums, s.f0.length ≤ 2147483646 ∧ ∀ r ∈ s.f1, r.length ≤ 2147483647) (hr : rightB G fs fi = true)
    (f : Fun) (hf : f = fs.getD fi.toNat zF) (hfit : ∀ x ∈ f.f3, x.f0 = 11 → fitsB (fs.getD x.f4.toNat zF) (sums.getD x.f4.toNat zS) = true) (h1 : 0 ≤ f.f1 ∧ f.f1 ≤ 4) (h2 : 0 ≤ f.f2 ∧ f.f2 ≤ 255) (hok : ∀ x ∈ f.f3, InsOk sums x) (hn : f.f3.length ≤ 4096) (htl : TellsAt w) :
    Calls Tryd.prog 23 #[.agg #[.int .i64 G, .slice A fs.length c], .int .i64 fi, .slice SA sums.length sl] w fun e w' => ∃ v, e = .returned (.tuple #[v, .int .i64 0]) ∧ k90.R 90 w' w.heap.size (fun _ => True) v (allE f sums (1 + f.f1 + f.f2) f.f3.length).1 ∧ Below w.heap.size w w' := by
  have hfi : 0 ≤ fi ∧ fi < fs.length := by
    unfold rightB at hr
    rw [Bool.and_eq_true, decide_eq_true_eq] at hr
    exact hr.1
  have HC := Lib.hid hC
  have HCODE := Lib.hid hcode
  have HS := Lib.hid hS
  have HSM := Lib.hid hsm
  have HR := Lib.hid hr
  have HF := Lib.hid hf
  have HFIT := Lib.hid hfit
  have HOK := Lib.hid hok
  have HTL := Lib.hid htl
  clear hC hcode hS hsm hr hf hfit hok htl
  have hb0 := below1 w (.cells #[.int .i64 G, .slice A fs.length c] 24)
  have hn0 := alloc_new w (.cells #[.int .i64 G, .slice A fs.length c] 24)
  refine (callsIn_wide (n := 4)).1 (callsIn_of_wp_marks Tryd.func23 rfl trivial ?_ rfl)
  refine wpIn_wide.2 ?_
  simp only [Tryd.ntmps23, List.size_toArray, List.length_cons, List.length_nil, Nat.reduceAdd, Nat.reduceSub, Array.replicate_succ, Array.replicate_zero, List.push_toArray, List.append_toArray, List.nil_append, List.cons_append]
  go_upto_region 1 with (fail)
  obtain ⟨N, hN⟩ : ∃ N, w.heap.size = N := ⟨_, rfl⟩
  have HN := Lib.hid hN
  rw [hN] at hb0 hn0 ⊢
  clear hN
  generalize World.alloc _ _ = W at hb0 hn0 ⊢
  have HB := Lib.hid hb0
  have HP := Lib.hid hn0
  clear hb0 hn0
  have p1 := blk_cell HP.out 1
  have p0 := blk_cell HP.out 0
  simp only [List.getElem?_toArray, List.getElem?_cons_succ, List.getElem?_cons_zero] at p0 p1
  have HRT := Lib.hid (right_any G A c fs fi W (Kd.C_below HC.out (HN.out ▸ HB.out)) hlen HCODE.out)
  rw [HR.out] at HRT
  go_wp2_with fail
  refine HRT.out.mono ?_
  rintro e W1 ⟨rfl, hb⟩
  have HP1 := Lib.hid ((hb.block _ (blk_lt HP.out)).trans HP.out)
  have HB1 := Lib.hid (HB.out.trans (hb.mono (HN.out ▸ HB.out.size)))
  clear hb p0 p1 HRT HB HP
  have p1 := blk_cell HP1.out 1
  simp only [List.getElem?_toArray, List.getElem?_cons_succ, List.getElem?_cons_zero] at p1
  have bne : ((sums.length : Int) != (fs.length : Int)) = false := by rw [hsl]; simp
  go_upto_region 3 with (fail)
  clear p1 bne
  obtain ⟨wa, rfl⟩ : ∃ wa : World, wa = W1 := ⟨_, rfl⟩
  have p1 := blk_cell HP1.out 1
  simp only [List.getElem?_toArray, List.getElem?_cons_succ, List.getElem?_cons_zero] at p1
  have hf0 := hfi.1
  have hf1 := hfi.2
  obtain ⟨ad, A3, c3, hA, e0, e1, e2, e3, hc3, hC3⟩ := at_T45 HC.out fi hf0 hf1
  have hf' : rd_T45 fs fi = f := HF.out.symm
  rw [hf'] at e0 e1 e2 e3 hc3 hC3
  have HC0 := Lib.hid hC3
  have hbn : Below w.heap.size w wa := HN.out ▸ HB1.out
  replace e0 := below_cells hbn _ _ e0
  replace e1 := below_cells hbn _ _ e1
  replace e2 := below_cells hbn _ _ e2
  replace e3 := below_cells hbn _ _ e3
  replace hC3 := Kd.C_below hC3 hbn
  subst hA
  have HC3 := Lib.hid hC3
  have HFI := Lib.hid (first_is f h1 h2)
  have HP2 := Lib.hid (show (wa.drew).heap[N]? = _ from HP1.out)
  have HB2 := Lib.hid (show Below N w wa.drew from below_drew HB1.out)
  have E0 := Lib.hid e0
  have E1 := Lib.hid e1
  have E2 := Lib.hid e2
  have E3 := Lib.hid e3
  have C3 := Lib.hid (show k52.C wa.drew A3 f.f3.length f.f3 from hC3)
  clear hC3
  go_region_held3 (fun w' => w'.cell? ⟨N, 1, none⟩ = some (.slice (some ad) fs.length c) ∧ w'.cell? (ad.add (fi.toNat * 4)) = some (.int .i64 f.f0) ∧ w'.cell? ⟨(ad.add (fi.toNat * 4)).block, (ad.add (fi.toNat * 4)).off + 1, none⟩ = some (.int .i64 f.f1) ∧ w'.cell? ⟨(ad.add (fi.toNat * 4)).block, (ad.add (fi.toNat * 4)).off + 2, none⟩ = some (.int .i64 f.f2) ∧ w'.cell? ⟨(ad.add (fi.toNat * 4)).block, (ad.add (fi.toNat * 4)).off + 3, none⟩ = some (.slice A3 f.f3.length c3))
    (first | (go_keep; done) | exact ⟨k0, k1, k2, k3, k4⟩)
    (first | (go_at_call 38; refine (flow_first.calls f.f0 f.f1 f.f2 A3 c3 f.f3 (1 + f.f1 + f.f2) wa.drew C3.out hc3 HFI.out).mono ?_; rintro e w3 ⟨rfl, hb3⟩; have k0 := below_cells hb3 _ _ p1; have k1 := below_cells hb3 _ _ e0; have k2 := below_cells hb3 _ _ e1; have k3 := below_cells hb3 _ _ e2; have k4 := below_cells hb3 _ _ e3; have HB3 := Lib.hid hb3; clear hb3))
  have hb4 := below1 w3 (.cells #[.int .i64 f.f0, .int .i64 f.f1, .int .i64 f.f2, .slice A3 f.f3.length c3, .slice SA fs.length sl, .int .i64 (1 + f.f1 + f.f2)] 85)
  have hn4 := alloc_new w3 (.cells #[.int .i64 f.f0, .int .i64 f.f1, .int .i64 f.f2, .slice A3 f.f3.length c3, .slice SA fs.length sl, .int .i64 (1 + f.f1 + f.f2)] 85)
  have HB3' := Lib.hid (Below.trans (below_drew (Below.refl _ _)) HB3.out : Below wa.heap.size wa w3)
  have hsz3 : wa.heap.size ≤ w3.heap.size := HB3'.out.size
  have HB4 := Lib.hid (HB1.out.trans ((HB3'.out.trans (hb4.mono hsz3)).mono (by rw [← HN.out]; exact HB1.out.size)))
  have HP4 := Lib.hid (((HB3'.out.trans (hb4.mono hsz3)).block _ (blk_lt HP1.out)).trans HP1.out)
  have HC4 := Lib.hid (Kd.C_below HC3.out (HB3'.out.trans (hb4.mono hsz3)))
  obtain ⟨sc, hsc⟩ : ∃ sc, w3.heap.size = sc := ⟨_, rfl⟩
  have hNs : N < sc := by have := blk_lt HP1.out; omega
  rw [hsc] at hn4 ⊢
  have hS4 : SceneAt (w3.alloc (.cells #[.int .i64 f.f0, .int .i64 f.f1, .int .i64 f.f2, .slice A3 f.f3.length c3, .slice SA fs.length sl, .int .i64 (1 + f.f1 + f.f2)] 85)) sc f A3 c3 SA sums.length sl (1 + f.f1 + f.f2) := by rw [hsl]; exact hn4
  have HS4 := Lib.hid hS4
  clear hS4 hn4 hb4 hsc hsz3 k0 k1 k2 k3 k4 e0 e1 e2 e3 p1 HB3 HB3' HP2 HB2 E0 E1 E2 E3 C3 HC3 HP1 HB1 HFI
  generalize World.alloc _ _ = W4 at HB4 HP4 HC4 HS4 ⊢
  have s3 := blk_cell HS4.out 3
  simp only [List.getElem?_toArray, List.getElem?_cons_succ, List.getElem?_cons_zero] at s3
  go_wp2_with fail
  clear s3
  go_loopw [45] (fun i wr => ∃ j : Nat, j ≤ f.f3.length ∧ i = .int .i64 j ∧ Below W4.heap.size W4 wr) (fun i _ => f.f3.length - (intOf i).toNat)
  case atStart => exact ⟨0, by omega, rfl, Below.refl _ _⟩
  case round =>
    obtain ⟨j, hj, rfl, hb⟩ := hrel
    have HBr := Lib.hid hb
    clear hb
    by_cases hlt : j < f.f3.length
    · obtain ⟨ad3, A5, c5, A6, c6, hA3, x0, x1, x2, x3, x4, x5, x6, _, _, _, _⟩ := at_T52 (Kd.C_below HC4.out HBr.out) (j : Int) (by omega) (by omega)
      obtain ⟨x, hx⟩ : ∃ x, x = f.f3.getD j zI := ⟨_, rfl⟩
      have hxr : rd_T52 f.f3 (j : Int) = x := by rw [rd_T52, Int.toNat_natCast]; exact hx.symm
      rw [hxr] at x0 x1 x2 x3 x4 x5 x6
      rw [Int.toNat_natCast] at x0 x1 x2 x3 x4 x5 x6
      have hxm : x ∈ f.f3 := hx ▸ (by rw [List.getD_eq_getElem?_getD, List.getElem?_eq_getElem hlt]; exact List.getElem_mem hlt)
      have HXM := Lib.hid hxm
      subst hA3
      clear hx hxr hxm
      go_upto_region 7 with (fail)
      have hb5 := below1 wr (.cells #[.int .i64 x.f0, .int .i64 x.f1, .int .i64 x.f2, .int .i64 x.f3, .int .i64 x.f4, .slice A5 x.f5.length c5, .slice A6 x.f6.length c6] 52)
      have hn5 := alloc_new wr (.cells #[.int .i64 x.f0, .int .i64 x.f1, .int .i64 x.f2, .int .i64 x.f3, .int .i64 x.f4, .slice A5 x.f5.length c5, .slice A6 x.f6.length c6] 52)
      have HB5 := Lib.hid (HBr.out.trans (hb5.mono HBr.out.size))
      obtain ⟨tb, htb⟩ : ∃ tb, wr.heap.size = tb := ⟨_, rfl⟩
      rw [htb] at hn5 ⊢
      clear hb5 htb x0 x1 x2 x3 x4 x5 x6
      generalize World.alloc _ _ = W5 at hn5 HB5 ⊢
      have HX5 := Lib.hid hn5
      clear hn5
      have y0 := blk_cell HX5.out 0
      have y4 := blk_cell HX5.out 4
      have p1 := blk_cell ((HB5.out.block _ (blk_lt HP4.out)).trans HP4.out) 1
      simp only [List.getElem?_toArray, List.getElem?_cons_succ, List.getElem?_cons_zero] at y0 y4 p1
      by_cases h11 : x.f0 = 11
      · have b11 : (x.f0 == 11) = true := by simpa using h11
        obtain ⟨hx4, _⟩ := (HOK.out x HXM.out).call h11
        have HFT := Lib.hid (HFIT.out x HXM.out h11)
        clear h11
        have hbw := HB4.out.trans (HB5.out.mono (by rw [← HN.out]; exact HB4.out.size))
        obtain ⟨_, G3, k3, hAd, e0, e1, e2, e3, hk3, hG3⟩ := at_T45 (Kd.C_below HC.out (HN.out ▸ hbw)) x.f4 hx4.1 (by omega)
        obtain ⟨sd, S0, l0, S1, l1, hSd, g0, g1, hl0, hS0, hl1, hS1⟩ := at_T33 (Kd.C_below HS.out (HN.out ▸ hbw)) x.f4 hx4.1 hx4.2
        obtain ⟨gf, hgf⟩ : ∃ gf, gf = fs.getD x.f4.toNat zF := ⟨_, rfl⟩
        have hgf' : rd_T45 fs x.f4 = gf := hgf.symm
        obtain ⟨gs, hgs⟩ : ∃ gs, gs = sums.getD x.f4.toNat zS := ⟨_, rfl⟩
        have hgs' : rd_T33 sums x.f4 = gs := hgs.symm
        rw [hgf'] at e0 e1 e2 e3 hk3 hG3
        rw [hgs'] at g0 g1 hl0 hS0 hl1 hS1
        have hFT := HFT.out
        rw [← hgf, ← hgs] at hFT
        have hsz := HSM.out gs (hgs ▸ (by rw [List.getD_eq_getElem?_getD, List.getElem?_eq_getElem (show x.f4.toNat < sums.length by omega)]; exact List.getElem_mem _))
        injection hAd with hAd
        subst hAd
        subst hSd
        have HFA := Lib.hid (fits_any gf gs G3 k3 S0 l0 S1 l1 W5.drew hG3 hk3 hS0 hl0 hS1 hl1 hsz.1 hsz.2)
        rw [hFT] at HFA
        have hx40 := hx4.1
        have hx41 : x.f4 < fs.length := by omega
        have hx42 : x.f4 < sums.length := hx4.2
        clear hgf hgf' hgs hgs' hFT hsz hG3 hS0 hS1 HFT hbw
        go_still_tail 15, (by kernel_rfl)
        change wpList _ _ _ _ _ W5.drew
        clear y0 y4 p1 e0 e1 e2 e3 g0 g1
        go_wp2_with fail
        refine HFA.out.mono ?_
        rintro e W6 ⟨rfl, hb6⟩
        have HB6 := Lib.hid (HB5.out.trans ((Below.trans (below_drew (Below.refl _ _)) hb6 : Below W5.heap.size W5 W6).mono HB5.out.size))
        clear hb6
        go_wp2_with fail
        go_roundw
        case rel => exact ⟨j + 1, by omega, by go_num, HB6.out⟩
        case measure => simp [intOf]; omega
      · have b11 : (x.f0 == 11) = false := by simpa using h11
        clear h11
        go_quiet (fail)
        go_wp2_with fail
        go_roundw
        case rel => exact ⟨j + 1, by omega, by go_num, pw_below_drewN HB5.out _⟩
        case measure => simp [intOf]; omega
    · obtain rfl : f.f3.length = j := by omega
      clear hlt hj
      go_wp2_with fail
      refine (edges40_any sc _).mono ?_
      rintro e W6 ⟨rfl, hW6⟩
      have hb6 := below1 wr (.cells #[.slice none 0 0] 60)
      have hn6 := alloc_new wr (.cells #[.slice none 0 0] 60)
      have hz6 : (wr.alloc (.cells #[.slice none 0 0] 60)).heap.size = wr.heap.size + 1 := by simp
      have hb7 := below1 (wr.alloc (.cells #[.slice none 0 0] 60)) (.cells #[.pointer (some ⟨sc, 0, none⟩)] 83)
      have hn7 := alloc_new (wr.alloc (.cells #[.slice none 0 0] 60)) (.cells #[.pointer (some ⟨sc, 0, none⟩)] 83)
      rw [← hW6] at hb7 hn7
      have hk6 := (hb7.block _ (blk_lt hn6)).trans hn6
      have hBW : Below wr.heap.size wr W6 := hb6.trans (hb7.mono hb6.size)
      have hz7 : W6.heap.size = wr.heap.size + 2 := by rw [hW6]; simp
      rw [hz6] at hn7 ⊢
      clear hW6 hb6 hb7 hn6 hz6
      have HK6 := Lib.hid hk6
      have HN7 := Lib.hid hn7
      have HB6 := Lib.hid (HBr.out.trans (hBW.mono HBr.out.size))
      obtain ⟨lb, hlb⟩ : ∃ lb, wr.heap.size = lb := ⟨_, rfl⟩
      rw [hlb] at HK6 HN7 hz7 ⊢
      have hlsc : sc < lb := by have := blk_lt HS4.out; have := HBr.out.size; omega
      clear hk6 hn7 hBW hlb HBr
      go_wp2_with fail
      refine (wpIn_wide (n := 5)).1 ?_
      have hsN : w.heap.size ≤ sc := by rw [HN.out]; omega
      have hbW : Below w.heap.size w W6 := (HN.out ▸ HB4.out : Below w.heap.size w W4).trans (HB6.out.mono (by have := HB4.out.size; rw [HN.out] at *; exact Nat.le_trans (by have := blk_lt HP4.out; omega) (Nat.le_refl _)))
      have hS6 : SceneAt W6 sc f A3 c3 SA sums.length sl (1 + f.f1 + f.f2) := (HB6.out.block _ (blk_lt HS4.out)).trans HS4.out
      obtain ⟨i0, hi0, hz0, hz1, hz2⟩ := info_parts info_edge
      refine rangeFunc_edges (q := 12) (gf := 52) (lb := #[.pointer (some ⟨lb + 1, 0, none⟩)]) rfl (enters_of Tryd.func52 (by kernel_rfl) rfl) (GotAt w sc lb) 163880 (sc + 1) sc (allE f sums (1 + f.f1 + f.f2) f.f3.length).1 (Nat.lt_succ_self _) (by omega)
        (fun pre X X' hk h => h.kept hsN hlsc hk) (fun pre X k o o' h hk ho hc => h.put (by omega) ho hc) ⟨_, HK6.out, OwnRow.none_ _ _ _ _ _, hbW⟩ ?hseq ?assign ?body ?done
      case hseq =>
        intro l T X hbX hkT hY hT
        have h := iter_any l (lb + 1) sc (sc + 1) 163880 w.heap.size T hkT hY (Nat.lt_succ_self _) hsN f A3 c3 SA sums sl (1 + f.f1 + f.f2) w X (hbW.trans (hbX.mono hbW.size)) rfl ((hbX.block _ (blk_lt HN7.out)).trans HN7.out) ((hbX.block _ (blk_lt hS6)).trans hS6) HC0.out HS.out HTL.out h1 HOK.out (by omega) hn (by omega) hT
        refine callsIn_wide.2 (h.mono ?_)
        rintro r X' ⟨rfl, h, _⟩
        exact ⟨⟨_, rfl⟩, h⟩
      case assign =>
        intro l e X K hK
        unfold edgV at hK ⊢
        simp only [List.setIfInBounds_toArray, List.set_cons_zero, List.set_cons_succ] at hK ⊢
        gi_wp2
        exact hK
      case body =>
        rintro l pre e X bx ⟨v, hbk, ⟨inner, ho, hr⟩, hBX⟩ hlen hbx he
        unfold edgV
        simp only [List.setIfInBounds_toArray, List.set_cons_zero, List.set_cons_succ]
        have HBK := Lib.hid hbk
        have HO := Lib.hid ho
        have HRp := Lib.hid hr
        have HBX := Lib.hid hBX
        have c0 := blk_cell hbk 0
        have z0 := blk_frozen hbk 0
        have e0 := blk_cell he 0
        have e1 := blk_cell he 1
        have e2 := blk_cell he 2
        simp only [List.getElem?_toArray, List.getElem?_cons_succ, List.getElem?_cons_zero] at c0 e0 e1 e2
        have hsz := HBX.out.size
        have hbs : sc + 1 ≤ X.heap.size := by have := blk_lt hbk; omega
        have hnews := World.news_of_block (heap_alloc_new X (.cells #[.int .i64 e.f0, .int .i64 e.f1, .int .i64 e.f2] 90))
        clear hbk ho hr hBX he
        gi_wp2_with (first | (gi_at_builtin; refine wpListIn_append_own _ rfl (.tmp 71) (.tmp 73) 60 rfl (sc + 1) 90 i0 _ 3 24 Tryd.underlying60 hi0 hz0 hz1 hz2 rfl (by decide) v pre.length inner rfl (HO.out.alloc _) ⟨X.heap.size, 0, none⟩ 1 1 [.int .i64 e.f0, .int .i64 e.f1, .int .i64 e.f2] rfl rfl hnews (by intro u hu; simp at hu; rcases hu with rfl | rfl | rfl <;> rfl) (by simp only [maxLen]; omega) (by omega) (by simp; omega) ?_; intro v' w1 hown' hgrow _; obtain ⟨A', c', rfl⟩ := own_slice hown'; have hm := GotAt.more (w := w) (e := e) hsN hlsc HBK.out HO.out HRp.out HBX.out hown' hgrow; have hk1 := ((World.grownBy.trans (World.grownBy_alloc X _ _) hgrow).block _ (blk_lt HBK.out) (own_ne HO.out HBK.out (by decide))).trans HBK.out; have z1 := blk_frozen hk1 0; have c1 := blk_cell hk1 0; simp only [List.getElem?_toArray, List.getElem?_cons_zero] at c1; have HM := Lib.hid hm; clear hm hown' hgrow hk1))
        exact HM.out
      case done =>
        intro D X hI hD hK
        obtain ⟨v, hbk, hRE, hBX⟩ := got_edges hI hsN
        have hDp := put_below (o' := .deferred none) (show w.heap.size ≤ D by omega) hK
        have hRE2 := R_put_other hRE hK rfl (o' := .deferred none)
        have c0 := blk_cell hbk 0
        simp only [List.getElem?_toArray, List.getElem?_cons_zero] at c0
        have HRE := Lib.hid hRE2
        have HBX := Lib.hid (hBX.trans hDp)
        have HK := Lib.hid hK
        clear hI hRE hBX hRE2 hDp hK hbk
        go_wp2_with fail
        refine ⟨by simp, .inl ⟨_, _, rfl, run_takeDeferred HK.out, ?_⟩⟩
        exact ⟨_, results_tmp2 rfl _ _ _, v, rfl, HRE.out, HBX.out⟩
end Go.Proofs.YtcbcacbbnojdjaaDoor
