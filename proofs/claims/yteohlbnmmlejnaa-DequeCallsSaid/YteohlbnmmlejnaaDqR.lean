/-
  A deque and the document's deque of the same tasks; what 'does' does to them.
-/
import Derived.Test.YteohlbnmmlejnaaDqQ
namespace Go.Proofs.Yteohlbnmmlejnaa
open Go.RowKit Go.Proofs.YteohlbnmmlejnaaW.PrintWords

/-- the blocks of a pair -/
def foot (b r : Nat) (v u : Value) (k : Nat) : Prop := k = b ∨ k = r ∨ some k = v.ownBlock ∨ some k = u.ownBlock

structure Tw (w : World) (base b r : Nat) (v u : Value) (xs : List Int) : Prop where
  dq : Dq w base b v xs
  rf : Rf w base r (fun k => some k ≠ v.ownBlock) u xs

theorem blk_types {w : World} {g g' : Nat} {cs cs' : Array Value} {T T' : TypeId} {fr fr' : Nat × Nat} (h : w.heap[g]? = some (.cells cs T fr)) (h' : w.heap[g']? = some (.cells cs' T' fr')) (hne : T ≠ T') : g ≠ g' := by
  intro e
  subst e
  rw [h] at h'
  simp at h'
  exact hne h'.2.1
theorem Dq.typed {w : World} {base b : Nat} {v : Value} {xs : List Int} (h : Dq w base b v xs) : (∃ cs, w.heap[b]? = some (.cells cs 76 (0, 0))) ∧ ∀ k, some k = v.ownBlock → ∃ cs, w.heap[k]? = some (.cells cs 3 (0, 0)) := by
  obtain ⟨_, sm, f, gs, h⟩ := h
  refine ⟨⟨_, h.BK⟩, fun k hk => ?_⟩
  rcases h.own.2 with ⟨rfl, _⟩ | ⟨g, cap, cur, rfl, _, hg, _⟩
  · simp [Value.ownBlock] at hk
  · simp [Value.ownBlock] at hk
    subst hk
    exact ⟨_, hg⟩
theorem Rf.typed {w : World} {base r : Nat} {ok : Nat → Prop} {u : Value} {xs : List Int} (h : Rf w base r ok u xs) : (∃ cs, w.heap[r]? = some (.cells cs 78 (0, 0))) ∧ ∀ k, some k = u.ownBlock → ∃ cs, w.heap[k]? = some (.cells cs 3 (0, 0)) :=
  ⟨⟨_, h.blk⟩, fun k hk => by obtain ⟨cs, hc⟩ := Kd.Q_typed h.q k hk.symm; exact ⟨cs, hc⟩⟩

/-- numbers lead nowhere: the one block is the row's own -/
theorem q_narrow {w : World} {base : Nat} {ok : Nat → Prop} {u : Value} {xs : List Int} (h : (Kd.int .i64).Q 3 w base ok u xs) : (Kd.int .i64).Q 3 w base (fun k => some k = u.ownBlock) u xs := by
  obtain ⟨h0, inner, hq, hr⟩ := h
  exact ⟨fun k hk => hk.symm, inner, hq, hr⟩

/-- the deque has turned -/
theorem Tw.deq {w w' : World} {base b r : Nat} {v v' u : Value} {xs : List Int} (h : Tw w base b r v u xs) (hf : Fr w w' (fun k => k = b ∨ some k = v.ownBlock))
    (hv : v'.ownBlock = v.ownBlock ∨ ∃ g, v'.ownBlock = some g ∧ w.heap.size ≤ g) : Rf w' base r (fun k => some k ≠ v'.ownBlock) u xs := by
  obtain ⟨⟨cb, hb⟩, hvt⟩ := h.dq.typed
  have hr := h.rf.blk
  refine ⟨h.rf.lo, hf.blk hr ?_, ?_⟩
  · rintro (e | e)
    · exact blk_types hr hb (by decide) e
    · obtain ⟨cs, hc⟩ := hvt _ e; exact blk_types hr hc (by decide) rfl
  · refine Kd.Q_mono (Kd.Q_step (Kd.Q_bound h.rf.q) (fun k hk hlt => hf.block k hlt (fun hs => ?_))) (fun k hk => ?_)
    · rcases hs with hs | hs
      · obtain ⟨_, _, _, q, hq, cells, hc⟩ := hk
        have hq3 : q = 3 := by simpa [Kd.int, Kd.scalar] using hq
        subst hq3
        exact blk_types hc hb (by decide) hs
      · exact hk.1 hs
    · rcases hv with hv | ⟨g, hg, hl⟩
      · rw [hv]; exact hk.1
      · rw [hg]
        have := hk.2.2.1
        intro he
        simp at he
        omega
/-- the document's has turned -/
theorem Tw.ref {w w' : World} {base b r : Nat} {v u : Value} {xs ys : List Int} (hd : Dq w base b v xs) (h : Rf w base r (fun k => some k ≠ v.ownBlock) u ys) (hf : Fr w w' (fun k => k = r ∨ some k = u.ownBlock)) : Dq w' base b v xs := by
  obtain ⟨⟨cb, hb⟩, hvt⟩ := hd.typed
  refine hd.keep hf ?_ ?_
  · rintro (e | e)
    · exact blk_types hb h.blk (by decide) e
    · obtain ⟨cs, hc⟩ := h.typed.2 _ e; exact blk_types hb hc (by decide) rfl
  · rintro k hk (e | e)
    · obtain ⟨cs, hc⟩ := hvt k hk.symm; exact blk_types hc h.blk (by decide) e
    · exact h.q.1 k e.symm hk.symm

theorem Tw.low {w : World} {base b r : Nat} {v u : Value} {xs : List Int} (h : Tw w base b r v u xs) : ∀ k, foot b r v u k → base ≤ k ∧ k < w.heap.size := by
  rintro k (rfl | rfl | e | e)
  · obtain ⟨hbb, sm, f, gs, h'⟩ := h.dq; exact ⟨hbb, blk_lt h'.BK⟩
  · exact ⟨h.rf.lo, blk_lt h.rf.blk⟩
  · obtain ⟨hbb, sm, f, gs, h'⟩ := h.dq; exact h'.own.lt k e.symm
  · exact ⟨Kd.Q_base h.rf.q k e.symm, Kd.Q_lt h.rf.q k e.symm⟩
theorem Tw.keep {w w' : World} {base b r : Nat} {v u : Value} {xs : List Int} (h : Tw w base b r v u xs) {S : Nat → Prop} (hf : Fr w w' S) (hS : ∀ k, foot b r v u k → ¬ S k) : Tw w' base b r v u xs := by
  refine ⟨h.dq.keep hf (hS b (.inl rfl)) (fun k hk => hS k (.inr (.inr (.inl hk.symm)))), h.rf.lo, hf.blk h.rf.blk (hS r (.inr (.inl rfl))), ?_⟩
  have h1 := Kd.Q_step (q_narrow h.rf.q) (w1 := w') (fun k hk hlt => hf.block k hlt (hS k (.inr (.inr (.inr hk)))))
  exact Kd.Q_mono h1 (fun k hk => h.rf.q.1 k hk.symm)

def doesPost (w : World) (base b r : Nat) (v u : Value) (xs : List Int) (kd : Int) (e : Ending) (w' : World) : Prop :=
  e = .returned (.bool true) ∧ ∃ v' u' ys, Tw w' base b r v' u' ys ∧ ys.length ≤ xs.length + 1 ∧ (kd = 2 → ys = takeRest true xs) ∧ (kd = 3 → ys = takeRest false xs) ∧
    Fr w w' (foot b r v u) ∧ ∀ k, foot b r v' u' k → foot b r v u k ∨ w.heap.size ≤ k

theorem foot_two {w w1 w2 : World} {b r : Nat} {v u v' u' : Value} (h1 : Fr w w1 (fun k => k = b ∨ some k = v.ownBlock)) (hv : v'.ownBlock = v.ownBlock ∨ ∃ g, v'.ownBlock = some g ∧ w.heap.size ≤ g)
    (h2 : Fr w1 w2 (fun k => k = r ∨ some k = u.ownBlock)) (hu : u'.ownBlock = u.ownBlock ∨ ∃ g, u'.ownBlock = some g ∧ w1.heap.size ≤ g) :
    Fr w w2 (foot b r v u) ∧ ∀ k, foot b r v' u' k → foot b r v u k ∨ w.heap.size ≤ k := by
  refine ⟨(h1.mono ?_).trans (h2.mono (S' := foot b r v u) ?_) (fun _ _ h => h), ?_⟩
  · rintro k (e | e)
    · exact .inl e
    · exact .inr (.inr (.inl e))
  · rintro k (e | e)
    · exact .inr (.inl e)
    · exact .inr (.inr (.inr e))
  · rintro k (e | e | e | e)
    · exact .inl (.inl e)
    · exact .inl (.inr (.inl e))
    · rcases hv with hv | ⟨g, hg, hl⟩
      · exact .inl (.inr (.inr (.inl (hv ▸ e))))
      · rw [hg] at e; simp at e; exact .inr (by omega)
    · rcases hu with hu | ⟨g, hg, hl⟩
      · exact .inl (.inr (.inr (.inr (hu ▸ e))))
      · rw [hg] at e; simp at e; exact .inr (by have := h1.size; omega)
theorem foot_alloc {w w1 : World} {b r : Nat} {v u v' u' : Value} {o : Obj} (h : Fr (w.alloc o) w1 (foot b r v u) ∧ ∀ k, foot b r v' u' k → foot b r v u k ∨ (w.alloc o).heap.size ≤ k) :
    Fr w w1 (foot b r v u) ∧ ∀ k, foot b r v' u' k → foot b r v u k ∨ w.heap.size ≤ k :=
  ⟨((Fr.refl w _).alloc o).trans h.1 (fun _ _ h => h), fun k hk => (h.2 k hk).imp id (fun h => by simp at h; omega)⟩

set_option maxRecDepth 100000 in
set_option maxHeartbeats 3200000 in
theorem does_any (base b r : Nat) (v u : Value) (xs : List Int) (kd on t : Int) (w : World) (h : Tw w base b r v u xs) (hb : base ≤ w.heap.size) (hx : xs.length ≤ 17592186044413) :
    Calls Try.prog 18 #[.pointer (some ⟨b, 0, none⟩), .pointer (some ⟨r, 0, none⟩), .agg #[.int .i64 kd, .int .i64 on, .int .i64 t]] w (doesPost w base b r v u xs kd) := by
  have hT : Tw (w.alloc (.cells #[.int .i64 kd, .int .i64 on, .int .i64 t] 50)) base b r v u xs := h.keep ((Fr.refl w (fun _ => False)).alloc _) (fun _ _ h => h)
  have hb1 : base ≤ (w.alloc (.cells #[.int .i64 kd, .int .i64 on, .int .i64 t] 50)).heap.size := by simp; omega
  have hbk : (w.alloc (.cells #[.int .i64 kd, .int .i64 on, .int .i64 t] 50)).heap[w.heap.size]? = some (.cells #[.int .i64 kd, .int .i64 on, .int .i64 t] 50 (0, 0)) := heap_alloc_new w _
  have hnf : ∀ k, foot b r v u k → k ≠ w.heap.size := fun k hk => by have := (h.low k hk).2; omega
  have hfa := fun (w1 : World) (v' u' : Value) (hh : Fr (w.alloc (.cells #[.int .i64 kd, .int .i64 on, .int .i64 t] 50)) w1 (foot b r v u) ∧ ∀ k, foot b r v' u' k → foot b r v u k ∨ (w.alloc (.cells #[.int .i64 kd, .int .i64 on, .int .i64 t] 50)).heap.size ≤ k) => foot_alloc hh
  have HT := Lib.hid hT
  have HB := Lib.hid hb1
  have HBK := Lib.hid hbk
  have HNF := Lib.hid hnf
  have HFA := Lib.hid hfa
  clear h hT hb1 hbk hnf hfa
  by_cases h1 : kd = 1
  · subst h1
    go_enter Try.func18, Try.ntmps18
    go_wp2_with fail
    refine (Push_any base b v xs t _ HT.out.dq HB.out (by omega)).mono ?_
    rintro e w1 ⟨rfl, v', hd, hf, hv⟩
    have hbk1 := hf.blk HBK.out (fun e => by rcases e with e | e; exact HNF.out _ (.inl rfl) e.symm; exact HNF.out _ (.inr (.inr (.inl e))) rfl)
    have g2 : w1.cell? ⟨w.heap.size, 2, none⟩ = some (.int .i64 t) := (blk_cell hbk1 2).trans rfl
    have hr := HT.out.deq hf hv
    have hs1 := hf.size
    have HD := Lib.hid hd
    have HR := Lib.hid hr
    have HF := Lib.hid hf
    have HV := Lib.hid hv
    have HS := Lib.hid hs1
    clear hd hr hf hv hs1 hbk1
    go_wp2_with fail
    refine (RPush_any base r _ u xs t _ HR.out (Nat.le_trans HB.out HS.out) (fun k hk e => by have := HD.out.room_lt k e.symm; omega) (by omega)).mono ?_
    rintro e w2 ⟨rfl, u', hr2, hf2, hu⟩
    have hd2 := Tw.ref HD.out HR.out hf2
    have hft := HFA.out _ _ _ (foot_two HF.out HV.out hf2 hu)
    have HT2 := Lib.hid (Tw.mk hd2 hr2)
    have HFT := Lib.hid hft
    have HB2 := Lib.hid (Nat.le_trans (Nat.le_trans HB.out HS.out) hf2.size)
    clear hd2 hr2 hf2 hu hft g2
    go_wp2_with fail
    refine (Len_any base b v' _ _ HT2.out.dq).mono ?_
    rintro e w3 ⟨rfl, hd3, hf3⟩
    have hr3 := HT2.out.deq (v' := v') (hf3.mono (fun _ h => .inl h)) (.inl rfl)
    have HT3 := Lib.hid (Tw.mk hd3 hr3)
    have HF3 := Lib.hid hf3
    clear hd3 hr3 hf3
    go_wp2_with fail
    refine (RLen_any base r _ u' _ _ HT3.out.rf).mono ?_
    rintro e w4 ⟨rfl, rfl⟩
    go_wp2_with fail
    go_ret
    refine ⟨by simp, v', u', xs ++ [t], HT3.out, by simp, by simp, by simp, ?_, HFT.out.2⟩
    exact HFT.out.1.trans HF3.out (fun k _ e => .inl e)
  · by_cases h2 : kd = 2
    · subst h2
      go_enter Try.func18, Try.ntmps18
      go_wp2_with fail
      refine (Pop_any base b v xs _ HT.out.dq).mono ?_
      rintro e w1 ⟨rfl, hd, hf⟩
      have hr := HT.out.deq (v' := v) (hf.mono (fun _ h => .inl h)) (.inl rfl)
      have HD := Lib.hid hd
      have HR := Lib.hid hr
      have HF := Lib.hid (hf.mono (S' := fun k => k = b ∨ some k = v.ownBlock) (fun _ h => .inl h))
      clear hd hr hf
      go_wp2_with fail
      refine (RPop_any base r _ u xs _ HR.out).mono ?_
      rintro e w2 ⟨rfl, u', hr2, hf2, hu⟩
      have hd2 := Tw.ref HD.out HR.out hf2
      have hft := HFA.out _ _ _ (foot_two HF.out (.inl rfl) hf2 hu)
      have HT2 := Lib.hid (Tw.mk hd2 hr2)
      have HFT := Lib.hid hft
      clear hd2 hr2 hf2 hu hft
      go_wp2_with fail
      go_ret
      exact ⟨by simp, v, u', _, HT2.out, by simp [takeRest]; omega, fun _ => rfl, by simp, HFT.out.1, HFT.out.2⟩
    · by_cases h3 : kd = 3
      · subst h3
        go_enter Try.func18, Try.ntmps18
        go_wp2_with fail
        refine (Steal_any base b v xs _ HT.out.dq).mono ?_
        rintro e w1 ⟨rfl, hd, hf⟩
        have hr := HT.out.deq (v' := v) (hf.mono (fun _ h => .inl h)) (.inl rfl)
        have HD := Lib.hid hd
        have HR := Lib.hid hr
        have HF := Lib.hid (hf.mono (S' := fun k => k = b ∨ some k = v.ownBlock) (fun _ h => .inl h))
        clear hd hr hf
        go_wp2_with fail
        refine (RSteal_any base r _ u xs _ HR.out).mono ?_
        rintro e w2 ⟨rfl, u', hr2, hf2, hu⟩
        have hd2 := Tw.ref HD.out HR.out hf2
        have hft := HFA.out _ _ _ (foot_two HF.out (.inl rfl) hf2 hu)
        have HT2 := Lib.hid (Tw.mk hd2 hr2)
        have HFT := Lib.hid hft
        clear hd2 hr2 hf2 hu hft
        go_wp2_with fail
        go_ret
        exact ⟨by simp, v, u', _, HT2.out, by simp [takeRest]; omega, by simp, fun _ => rfl, HFT.out.1, HFT.out.2⟩
      · have hst : Fr w (w.alloc (.cells #[.int .i64 kd, .int .i64 on, .int .i64 t] 50)) (foot b r v u) := (Fr.refl w _).alloc _
        have HST := Lib.hid hst
        clear hst
        by_cases h6 : kd = 6
        · subst h6
          go_enter Try.func18, Try.ntmps18
          go_wp2_with fail
          refine (nothing_any t _).mono ?_
          rintro e w1 ⟨rfl, rfl⟩
          go_wp2_with fail
          go_ret
          exact ⟨by simp, v, u, xs, HT.out, by omega, by simp, by simp, HST.out, fun k hk => .inl hk⟩
        · go_enter Try.func18, Try.ntmps18
          go_wp2_with fail
          refine (Len_any base b v _ _ HT.out.dq).mono ?_
          rintro e w3 ⟨rfl, hd3, hf3⟩
          have hr3 := HT.out.deq (v' := v) (hf3.mono (fun _ h => .inl h)) (.inl rfl)
          have HT3 := Lib.hid (Tw.mk hd3 hr3)
          have HF3 := Lib.hid hf3
          clear hd3 hr3 hf3
          go_wp2_with fail
          refine (RLen_any base r _ u _ _ HT3.out.rf).mono ?_
          rintro e w4 ⟨rfl, rfl⟩
          go_wp2_with fail
          go_ret
          exact ⟨by simp, v, u, xs, HT3.out, by omega, fun h => absurd h h2, fun h => absurd h h3, HST.out.trans HF3.out (fun k _ e => .inl e), fun k hk => .inl hk⟩
end Go.Proofs.Yteohlbnmmlejnaa
