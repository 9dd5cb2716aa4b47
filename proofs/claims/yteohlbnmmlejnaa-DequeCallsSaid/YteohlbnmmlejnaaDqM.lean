/-
  Two deques beside one another; move.
-/
import Derived.Test.YteohlbnmmlejnaaDqG
namespace Go.Proofs.Yteohlbnmmlejnaa
open Go.RowKit

theorem Rg.keep {w w' : World} {base b : Nat} {st sm : Int} {T : Nat} {v : Value} {f : Int} {gs xs : List Int} (h : Rg w base b st sm T v f gs xs) {S : Nat → Prop} (hf : Fr w w' S) (hb : ¬ S b) (hv : ∀ k, v.ownBlock = some k → ¬ S k) :
    Rg w' base b st sm T v f gs xs := ⟨hf.blk h.BK hb, hf.own h.own hv, h.ne, h.f0, h.fl, h.len, h.cont, h.gl⟩
theorem Dq.keep {w w' : World} {base b : Nat} {v : Value} {xs : List Int} (h : Dq w base b v xs) {S : Nat → Prop} (hf : Fr w w' S) (hb : ¬ S b) (hv : ∀ k, v.ownBlock = some k → ¬ S k) : Dq w' base b v xs := by
  obtain ⟨hbb, sm, f, gs, h⟩ := h
  exact ⟨hbb, sm, f, gs, h.keep hf hb hv⟩
/-- a room is no deque's own block: the types part them -/
theorem Dq.room_ne {w : World} {base b base' b' : Nat} {v v' : Value} {xs xs' : List Int} (h : Dq w base b v xs) (h' : Dq w base' b' v' xs') : v.ownBlock ≠ some b' := by
  obtain ⟨_, sm, f, gs, h⟩ := h
  obtain ⟨_, sm', f', gs', h'⟩ := h'
  intro he
  rcases h.own.2 with ⟨rfl, _⟩ | ⟨g, cap, cur, rfl, _, hg, _⟩
  · simp [Value.ownBlock] at he
  · simp [Value.ownBlock] at he
    subst he
    rw [h'.BK] at hg
    simp at hg
theorem Dq.lt {w : World} {base b : Nat} {v : Value} {xs : List Int} (h : Dq w base b v xs) : b < w.heap.size := by
  obtain ⟨_, sm, f, gs, h⟩ := h
  exact blk_lt h.BK
theorem Dq.room_lt {w : World} {base b : Nat} {v : Value} {xs : List Int} (h : Dq w base b v xs) (k : Nat) (hk : v.ownBlock = some k) : k < w.heap.size := by
  obtain ⟨_, sm, f, gs, h⟩ := h
  exact (h.own.lt k hk).2

/-- Two deques that share nothing. -/
structure Two (w : World) (base b1 : Nat) (v1 : Value) (xs1 : List Int) (b2 : Nat) (v2 : Value) (xs2 : List Int) : Prop where
  one : Dq w base b1 v1 xs1
  two : Dq w base b2 v2 xs2
  ne : b1 ≠ b2
  rooms : ∀ k, v1.ownBlock = some k → v2.ownBlock ≠ some k

theorem Two.symm {w : World} {base b1 : Nat} {v1 : Value} {xs1 : List Int} {b2 : Nat} {v2 : Value} {xs2 : List Int} (h : Two w base b1 v1 xs1 b2 v2 xs2) : Two w base b2 v2 xs2 b1 v1 xs1 :=
  ⟨h.two, h.one, fun e => h.ne e.symm, fun k hk hk' => h.rooms k hk' hk⟩
/-- The first one has turned. -/
theorem Two.step {w w' : World} {base b1 : Nat} {v1 v1' : Value} {xs1 xs1' : List Int} {b2 : Nat} {v2 : Value} {xs2 : List Int} (h : Two w base b1 v1 xs1 b2 v2 xs2) (hd : Dq w' base b1 v1' xs1')
    (hf : Fr w w' (fun k => k = b1 ∨ some k = v1.ownBlock)) (hv : v1'.ownBlock = v1.ownBlock ∨ ∃ g, v1'.ownBlock = some g ∧ w.heap.size ≤ g) : Two w' base b1 v1' xs1' b2 v2 xs2 := by
  refine ⟨hd, h.two.keep hf ?_ ?_, h.ne, ?_⟩
  · rintro (e | e)
    · exact h.ne e.symm
    · exact h.one.room_ne h.two e.symm
  · rintro k hk (e | e)
    · exact h.two.room_ne h.one (e ▸ hk)
    · exact h.rooms k e.symm hk
  · intro k hk hk'
    rcases hv with hv | ⟨g, hg, hl⟩
    · exact h.rooms k (hv ▸ hk) hk'
    · have := h.two.room_lt k hk'
      rw [hg] at hk
      simp at hk
      omega
theorem Two.slim {w w' : World} {base b1 : Nat} {v1 : Value} {xs1 xs1' : List Int} {b2 : Nat} {v2 : Value} {xs2 : List Int} (h : Two w base b1 v1 xs1 b2 v2 xs2) (hd : Dq w' base b1 v1 xs1')
    (hf : Fr w w' (fun k => k = b1)) : Two w' base b1 v1 xs1' b2 v2 xs2 := h.step hd (hf.mono (fun _ h => .inl h)) (.inl rfl)

def src (near : Bool) (xs : List Int) (j : Nat) : List Int := if near then xs.take (xs.length - j) else xs.drop j
def dst (near : Bool) (xs : List Int) (j : Nat) : List Int := if near then (xs.drop (xs.length - j)).reverse else xs.take j
def got (near : Bool) (xs : List Int) (j : Nat) : Int := if near then xs[xs.length - 1 - j]?.getD 0 else xs[j]?.getD 0
theorem src_zero (near : Bool) (xs : List Int) : src near xs 0 = xs := by cases near <;> simp [src]
theorem dst_zero (near : Bool) (xs : List Int) : dst near xs 0 = [] := by cases near <;> simp [dst]
theorem src_end (near : Bool) (xs : List Int) : src near xs xs.length = [] := by cases near <;> simp [src]
theorem dst_end (near : Bool) (xs : List Int) : dst near xs xs.length = if near then xs.reverse else xs := by cases near <;> simp [dst]
theorem dst_length (near : Bool) (xs : List Int) (j : Nat) (hj : j ≤ xs.length) : (dst near xs j).length = j := by cases near <;> simp [dst] <;> omega
theorem src_some (near : Bool) (xs : List Int) (j : Nat) (hj : j < xs.length) : (!(src near xs j).isEmpty) = true := by
  have h : (src near xs j).length = xs.length - j := by cases near <;> simp [src]
  cases hs : src near xs j with
  | nil => rw [hs] at h; simp at h; omega
  | cons a l => rfl
theorem src_val (near : Bool) (xs : List Int) (j : Nat) (hj : j < xs.length) : takeVal near (src near xs j) = got near xs j := by
  cases near
  · simp [takeVal, src, got]
  · simp only [takeVal, src, got, if_true, List.getLast?_eq_getElem?, List.length_take]
    rw [List.getElem?_take, if_pos (by omega)]
    congr 2
    omega
theorem src_rest (near : Bool) (xs : List Int) (j : Nat) (hj : j < xs.length) : takeRest near (src near xs j) = src near xs (j + 1) := by
  cases near
  · simp [takeRest, src, List.tail_drop]
  · simp only [takeRest, src, if_true, List.dropLast_eq_take, List.length_take, List.take_take]
    congr 1
    omega
theorem dst_step (near : Bool) (xs : List Int) (j : Nat) (hj : j < xs.length) : dst near xs j ++ [got near xs j] = dst near xs (j + 1) := by
  cases near
  · simp only [dst, got, Bool.false_eq_true, if_false]
    rw [List.take_add_one, List.getElem?_eq_getElem hj]
    simp
  · simp only [dst, got, if_true]
    rw [show xs.length - 1 - j = xs.length - (j + 1) by omega, show xs.length - j = (xs.length - (j + 1)) + 1 by omega,
      List.getElem?_eq_getElem (show xs.length - (j + 1) < xs.length by omega), List.drop_eq_getElem_cons (show xs.length - (j + 1) < xs.length by omega)]
    simp only [List.reverse_cons, Option.getD_some]

theorem take_law (base b : Nat) (v : Value) (xs : List Int) (near : Bool) (w : World) (h : Dq w base b v xs) :
    Calls Try.prog 41 #[.pointer (some ⟨b, 0, none⟩), .bool near] w (tookPost w base b v xs near) := by
  have HP := Lib.hid (Pop_any base b v xs w h)
  have HS := Lib.hid (Steal_any base b v xs w h)
  clear h
  cases near
  · go_enter Try.func41, Try.ntmps41
    go_wp2_with (first | (go_at_call 22; refine (HS.out).mono ?_; rintro e w1 ⟨rfl, hR, hfr⟩))
    go_ret2
    exact ⟨rfl, hR, hfr⟩
  · go_enter Try.func41, Try.ntmps41
    go_wp2_with (first | (go_at_call 21; refine (HP.out).mono ?_; rintro e w1 ⟨rfl, hR, hfr⟩))
    go_ret2
    exact ⟨rfl, hR, hfr⟩

def movePost (w : World) (base b1 b2 : Nat) (xs : List Int) (near : Bool) (e : Ending) (w' : World) : Prop :=
  e = .returned (.tuple #[]) ∧ ∃ v1 v2, Two w' base b1 v1 [] b2 v2 (if near then xs.reverse else xs) ∧ Below base w w'

set_option maxRecDepth 100000 in
set_option maxHeartbeats 1600000 in
theorem move_any (base b1 b2 : Nat) (v1 v2 : Value) (xs : List Int) (near : Bool) (w : World) (h : Two w base b1 v1 xs b2 v2 []) (hb : base ≤ w.heap.size) (hx : xs.length ≤ 17592186044414) :
    Calls Try.prog 25 #[.pointer (some ⟨b1, 0, none⟩), .pointer (some ⟨b2, 0, none⟩), .int .i64 xs.length, .bool near] w (movePost w base b1 b2 xs near) := by
  have H := Lib.hid h
  clear h
  go_enter Try.func25, Try.ntmps25
  go_wp2_with fail
  go_loopw [8] (fun i wr => ∃ (j : Nat) (v1 v2 : Value), j ≤ xs.length ∧ i = .int .i64 j ∧ Two wr base b1 v1 (src near xs j) b2 v2 (dst near xs j) ∧ Below base w wr) (fun i _ => xs.length - (intOf i).toNat)
  case atStart => exact ⟨0, v1, v2, by omega, rfl, by rw [src_zero, dst_zero]; exact H.out, Below.refl _ _⟩
  case round =>
    obtain ⟨j, u1, u2, hj, rfl, hT, hbl⟩ := hrel
    have HT := Lib.hid hT
    have HL := Lib.hid hbl
    clear hT hbl H
    by_cases hlt : j < xs.length
    · go_wp2_with fail
      refine (take_law base b1 u1 (src near xs j) near _ HT.out.one).mono ?_
      rintro e w3 ⟨rfl, hd, hf⟩
      have hbl3 := HL.out.trans (HT.out.one.slim hf (Nat.le_trans hb HL.out.size))
      have hT3 := HT.out.slim hd hf
      rw [src_rest near xs j hlt] at hT3
      rw [src_val near xs j hlt, src_some near xs j hlt]
      have HT3 := Lib.hid hT3.symm
      have HL3 := Lib.hid hbl3
      clear hd hf hbl3 hT3 HT HL
      go_wp2_with fail
      refine (Push_any base b2 u2 (dst near xs j) (got near xs j) _ HT3.out.one (Nat.le_trans hb HL3.out.size) (by rw [dst_length near xs j hj]; omega)).mono ?_
      rintro e w4 ⟨rfl, u3, hd, hf, hv⟩
      have hbl4 := HL3.out.trans (HT3.out.one.wide hf (Nat.le_trans hb HL3.out.size))
      have hT4 := (HT3.out.step hd hf hv).symm
      rw [dst_step near xs j hlt] at hT4
      have HT4 := Lib.hid hT4
      have HL4 := Lib.hid hbl4
      clear hd hf hv hbl4 hT4 HT3 HL3
      go_wp2_with fail
      go_roundw
      case rel => exact ⟨j + 1, u1, u3, by omega, by go_num, HT4.out, HL4.out⟩
      case measure => simp [intOf]; omega
    · obtain rfl : j = xs.length := by omega
      go_wp2_with fail
      go_end0
      refine ⟨rfl, u1, u2, ?_, HL.out⟩
      have h9 := HT.out
      rwa [src_end, dst_end] at h9
end Go.Proofs.Yteohlbnmmlejnaa
