/-
  The document's Pop and Steal; what 'does' does.
-/
import Derived.Test.YteohlbnmmlejnaaDqP
import Derived.StillTailTactics
namespace Go.Proofs.Yteohlbnmmlejnaa
open Go.RowKit Go.Proofs.YteohlbnmmlejnaaW.PrintWords

theorem Rf.cut {w : World} {base r : Nat} {ok : Nat → Prop} {u u' : Value} {xs xs' : List Int} (h : Rf w base r ok u xs) (n : Nat) (hq : (Kd.int .i64).Q 3 w base ok u' xs') : Rf ((w.drewN n).setCell ⟨r, 0, none⟩ u') base r ok u' xs' := by
  have h2 : (w.drewN n).heap[r]? = some (.cells #[u] 78 (0, 0)) := h.blk
  exact ⟨h.lo, by simpa using blk_set h2 0 u', Kd.Q_set (Kd.Q_drewN hq n) h2 (by decide) 0 u'⟩

theorem own_take (A : Option Addr) (n m c c' : Nat) (hA : A ≠ none ∨ A = none) : (Value.slice A n c).ownBlock = (Value.slice A m c').ownBlock := by cases A <;> rfl

set_option maxRecDepth 100000 in
set_option maxHeartbeats 1600000 in
theorem RPop_any (base r : Nat) (ok : Nat → Prop) (u : Value) (xs : List Int) (w : World) (h : Rf w base r ok u xs) :
    Calls Try.prog 34 #[.pointer (some ⟨r, 0, none⟩)] w (rfPost w base r ok (.tuple #[.int .i64 (takeVal true xs), .bool (!xs.isEmpty)]) u (takeRest true xs)) := by
  obtain ⟨A, c, rfl, hc⟩ := Kd.Q_slice h.q
  have h0 : w.cell? ⟨r, 0, none⟩ = some (.slice A xs.length c) := (blk_cell h.blk 0).trans rfl
  have z0 := blk_frozen h.blk 0
  by_cases he : xs = []
  · subst he
    have H := Lib.hid h
    clear h
    go_enter Try.func34, Try.ntmps34
    go_wp2_with fail
    go_ret2
    exact ⟨rfl, _, H.out, Fr.refl _ _, .inl rfl⟩
  · have hp := List.length_pos_iff.2 he
    obtain ⟨au, y, rfl, hyj, hyc⟩ := ints_at (Kd.Q_reads' h.q).2.2 (xs.length - 1) (by omega)
    have hm := (Kd.Q_reads' h.q).2.2.2.1
    have hv : takeVal true xs = y := by simp [takeVal, List.getLast?_eq_getElem?, hyj]
    have HV := Lib.hid hv
    have HE := Lib.hid (show (!xs.isEmpty) = true by cases xs <;> simp at he ⊢)
    have hn1 : (1 : Int) ≤ (xs.length : Int) := by omega
    have hn2 : (xs.length : Int) ≤ 9223372036854775807 := by omega
    have hcu' : (xs.length : Int) ≤ (c : Int) := by omega
    have H := Lib.hid h
    have HQ := Lib.hid (show (Kd.int .i64).Q 3 w base ok (.slice (some au) (xs.length - 1) c) xs.dropLast by rw [List.dropLast_eq_take]; exact Kd.Q_take h.q (by omega))
    clear h hv hyj
    go_enter Try.func34, Try.ntmps34
    go_wp2_with fail
    go_quiet (fail)
    go_wp2_with fail
    have hs1 : IntKind.i64.wrap ((xs.length : Int) - 1) = (xs.length : Int) - 1 := IntWalk.i64_in _ (by omega)
    have hs2 : 0 ≤ (xs.length : Int) - 1 := by omega
    have hs3 : ((xs.length : Int) - 1).toNat = xs.length - 1 := by omega
    have hs4 : (xs.length : Int) - 1 ≤ (c : Int) := by omega
    refine wp_region_still_tail 14 (by kernel_rfl) (by kernel_rfl) ?_
    change wpStill _ _ (w.drewN nq).drew (fun a' => wpList _ _ _ _ a' (w.drewN nq).drew) _ _
    simp only [List.take_succ_cons, List.take_zero, List.drop_succ_cons, List.drop_zero]
    repeat still_step
    refine wpStill_nil ?_
    clear hs1 hs2 hs3 hs4
    go_wp2_with fail
    go_ret2
    refine ⟨by rw [HV.out, HE.out]; rfl, _, H.out.cut _ HQ.out, ?_, .inl rfl⟩
    exact ((Fr.refl w _).drewN _).setCell ⟨r, 0, none⟩ _ (fun _ => .inl rfl)

set_option maxRecDepth 100000 in
set_option maxHeartbeats 1600000 in
theorem RSteal_any (base r : Nat) (ok : Nat → Prop) (u : Value) (xs : List Int) (w : World) (h : Rf w base r ok u xs) :
    Calls Try.prog 35 #[.pointer (some ⟨r, 0, none⟩)] w (rfPost w base r ok (.tuple #[.int .i64 (takeVal false xs), .bool (!xs.isEmpty)]) u (takeRest false xs)) := by
  obtain ⟨A, c, rfl, hc⟩ := Kd.Q_slice h.q
  have h0 : w.cell? ⟨r, 0, none⟩ = some (.slice A xs.length c) := (blk_cell h.blk 0).trans rfl
  have z0 := blk_frozen h.blk 0
  by_cases he : xs = []
  · subst he
    have H := Lib.hid h
    clear h
    go_enter Try.func35, Try.ntmps35
    go_wp2_with fail
    go_ret2
    exact ⟨rfl, _, H.out, Fr.refl _ _, .inl rfl⟩
  · have hp := List.length_pos_iff.2 he
    obtain ⟨au, y, rfl, hyj, hyc⟩ := ints_at (Kd.Q_reads' h.q).2.2 0 (by omega)
    simp only [Addr.add, if_true] at hyc
    have hv : takeVal false xs = y := by simp [takeVal, List.head?_eq_getElem?, hyj]
    have HV := Lib.hid hv
    have HE := Lib.hid (show (!xs.isEmpty) = true by cases xs <;> simp at he ⊢)
    have hn1 : (1 : Int) ≤ (xs.length : Int) := by omega
    have hcut := cut_one (some au) xs.length c (by omega)
    have hs2 := Kd.Q_drop (k := 1) h.q (by omega)
    have ho : (Value.slice (if c = 1 then some au else (some au).map (·.add (1 * (Kd.int .i64).sz))) (xs.length - 1) (c - 1)).ownBlock = (Value.slice (some au) xs.length c).ownBlock := by
      split <;> simp [Value.ownBlock, Addr.add]
      split <;> rfl
    generalize (if c = 1 then some au else (some au).map (·.add (1 * (Kd.int .i64).sz))) = A' at hcut hs2 ho
    rw [List.drop_one] at hs2
    have HO := Lib.hid ho
    have HQ := Lib.hid hs2
    have H := Lib.hid h
    clear h hv hyj hs2 ho
    go_enter Try.func35, Try.ntmps35
    go_wp2_with fail
    go_ret2
    refine ⟨by rw [HV.out, HE.out]; rfl, _, H.out.cut 0 HQ.out, ?_, .inl HO.out⟩
    exact ((Fr.refl w _)).setCell ⟨r, 0, none⟩ _ (fun _ => .inl rfl)
end Go.Proofs.Yteohlbnmmlejnaa
