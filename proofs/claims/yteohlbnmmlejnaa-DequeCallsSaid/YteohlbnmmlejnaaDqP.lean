/-
  The calls of a deque that is nil; the document's deque.
-/
import Derived.Test.YteohlbnmmlejnaaDqO
namespace Go.Proofs.Yteohlbnmmlejnaa
open Go.RowKit Go.Proofs.YteohlbnmmlejnaaW.PrintWords

theorem Push_nil (t : Int) (w : World) : Calls Try.prog 23 #[.pointer none, .int .i64 t] w fun e w' => e = .returned (.tuple #[]) ∧ w = w' := by
  go_enter Try.func23, Try.ntmps23
  go_wp2_with fail
  refine bodyPost_ret (results_none rfl _ _ _) rfl ?_
  exact ⟨rfl, rfl⟩
theorem take_nil (near : Bool) (w : World) : Calls Try.prog 39 #[.pointer none, .bool near] w fun e w' => e = .returned (.tuple #[.int .i64 0, .bool false]) ∧ w = w' := by
  go_enter Try.func39, Try.ntmps39
  go_wp2_with fail
  go_ret2
  exact ⟨rfl, rfl⟩
theorem Pop_nil (w : World) : Calls Try.prog 21 #[.pointer none] w fun e w' => e = .returned (.tuple #[.int .i64 0, .bool false]) ∧ w = w' := by
  go_enter Try.func21, Try.ntmps21
  go_wp2_with (first | (go_at_call 39; refine (take_nil true _).mono ?_; rintro e w1 ⟨rfl, rfl⟩))
  go_ret2
  exact ⟨rfl, rfl⟩
theorem Steal_nil (w : World) : Calls Try.prog 22 #[.pointer none] w fun e w' => e = .returned (.tuple #[.int .i64 0, .bool false]) ∧ w = w' := by
  go_enter Try.func22, Try.ntmps22
  go_wp2_with (first | (go_at_call 39; refine (take_nil false _).mono ?_; rintro e w1 ⟨rfl, rfl⟩))
  go_ret2
  exact ⟨rfl, rfl⟩
theorem Len_nil (w : World) : Calls Try.prog 20 #[.pointer none] w fun e w' => e = .returned (.int .i64 0) ∧ w = w' := by
  go_enter Try.func20, Try.ntmps20
  go_wp2_with fail
  go_ret
  exact ⟨rfl, rfl⟩
theorem nothing_any (t : Int) (w : World) : Calls Try.prog 36 #[.int .i64 t] w fun e w' => e = .returned (.bool true) ∧ w = w' := by
  go_enter Try.func36, Try.ntmps36
  go_wp2_with (first | (go_at_call 23; refine (Push_nil _ _).mono ?_; rintro e w1 ⟨rfl, rfl⟩) | (go_at_call 21; refine (Pop_nil _).mono ?_; rintro e w1 ⟨rfl, rfl⟩) | (go_at_call 22; refine (Steal_nil _).mono ?_; rintro e w1 ⟨rfl, rfl⟩) | (go_at_call 20; refine (Len_nil _).mono ?_; rintro e w1 ⟨rfl, rfl⟩))
  go_ret
  exact ⟨rfl, rfl⟩

/-- The document's deque: one cell, a queue of numbers. -/
structure Rf (w : World) (base r : Nat) (ok : Nat → Prop) (u : Value) (xs : List Int) : Prop where
  lo : base ≤ r
  blk : w.heap[r]? = some (.cells #[u] 78 (0, 0))
  q : (Kd.int .i64).Q 3 w base ok u xs

def rfPost (w : World) (base r : Nat) (ok : Nat → Prop) (v : Value) (u : Value) (xs : List Int) (e : Ending) (w' : World) : Prop :=
  e = .returned v ∧ ∃ u', Rf w' base r ok u' xs ∧ Fr w w' (fun k => k = r ∨ some k = u.ownBlock) ∧ (u'.ownBlock = u.ownBlock ∨ ∃ g, u'.ownBlock = some g ∧ w.heap.size ≤ g)

theorem RNew_any (w : World) : Calls Try.prog 17 #[] w fun e w' => ∃ r, e = .returned (.pointer (some ⟨r, 0, none⟩)) ∧ w.heap.size ≤ r ∧ Rf w' w.heap.size r (fun _ => True) (.slice none 0 0) [] ∧ Fr w w' (fun _ => False) := by
  go_enter Try.func17, Try.ntmps17
  go_wp2_with fail
  go_ret
  refine ⟨w.heap.size, rfl, Nat.le_refl _, ⟨Nat.le_refl _, ?_, Kd.Q_nil _ _ _ _ _⟩, (Fr.refl w _).alloc _⟩
  simpa using heap_alloc_new w _

theorem RLen_any (base r : Nat) (ok : Nat → Prop) (u : Value) (xs : List Int) (w : World) (h : Rf w base r ok u xs) : Calls Try.prog 19 #[.pointer (some ⟨r, 0, none⟩)] w fun e w' => e = .returned (.int .i64 xs.length) ∧ w = w' := by
  obtain ⟨A, c, rfl, hc⟩ := Kd.Q_slice h.q
  have h0 : w.cell? ⟨r, 0, none⟩ = some (.slice A xs.length c) := (blk_cell h.blk 0).trans rfl
  clear h
  go_enter Try.func19, Try.ntmps19
  go_wp2_with fail
  go_ret
  exact ⟨rfl, rfl⟩

set_option maxRecDepth 100000 in
set_option maxHeartbeats 1600000 in
theorem RPush_any (base r : Nat) (ok : Nat → Prop) (u : Value) (xs : List Int) (t : Int) (w : World) (h : Rf w base r ok u xs) (hb : base ≤ w.heap.size) (hok : ∀ k, w.heap.size ≤ k → ok k) (hl : (xs.length + 1) * 8 ≤ 140737488355328) :
    Calls Try.prog 33 #[.pointer (some ⟨r, 0, none⟩), .int .i64 t] w (rfPost w base r ok (.tuple #[]) u (xs ++ [t])) := by
  obtain ⟨A, c, rfl, hc⟩ := Kd.Q_slice h.q
  have h0 : w.cell? ⟨r, 0, none⟩ = some (.slice A xs.length c) := (blk_cell h.blk 0).trans rfl
  have hrl := blk_lt h.blk
  have hnr := Kd.Q_ne h.q h.blk (by decide)
  have H := Lib.hid h
  have HO := Lib.hid hok
  have HN := Lib.hid hnr
  clear h hok hnr
  go_enter Try.func33, Try.ntmps33
  go_wp2_with (first | (at_builtin; refine Kd.Q_append (Kd.int .i64) (w0 := w) (W := w) base rfl (.tmp 10) (.tmp 12) 27 3 (.int .i64 0) 8 rfl Try.underlying27 info3 rfl (by decide) (by decide) _ xs t [.int .i64 t] ok (fun _ => False) rfl rfl rfl (fun _ h => h.elim) HO.out H.out.q (Below.refl _ _) hb hl ?_; intro u1 w1 hq hb1 hg hat; obtain ⟨A1, c1, rfl, _⟩ := Kd.Q_slice hq; have hbk := hg.block r hrl HN.out; have hbk1 := hbk.trans H.out.blk; have g0 : w1.cell? ⟨r, 0, none⟩ = some (.slice A xs.length c) := (blk_cell hbk1 0).trans rfl; have z0 := blk_frozen hbk1 0; have HQ := Lib.hid hq; have HG := Lib.hid hg; have HAT := Lib.hid hat; have HB := Lib.hid hb1; have HK := Lib.hid hbk1; clear hq hg hat hb1 hbk hbk1))
  go_end0
  refine ⟨rfl, _, ⟨H.out.lo, ?_, ?_⟩, ?_, HAT.out⟩
  · simpa using blk_set HK.out 0 _
  · exact Kd.Q_set HQ.out HK.out (by decide) 0 _
  · have h7 : Fr w w1 (fun k => k = r ∨ some k = (Value.slice A xs.length c).ownBlock) := ⟨HG.out.os, HG.out.tape, HG.out.output, HG.out.size, fun k hk hn => HG.out.block k hk (fun e => hn (.inr e))⟩
    exact h7.setCell ⟨r, 0, none⟩ _ (fun _ => .inl rfl)
end Go.Proofs.Yteohlbnmmlejnaa
