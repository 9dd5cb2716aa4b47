/-
  The law's own function 'fixed'.
-/
import Derived.Test.YteohlbnmmlejnaaDqF
namespace Go.Proofs.Yteohlbnmmlejnaa
open Go.RowKit

theorem Fr.belowOf {w w' : World} {S : Nat → Prop} (h : Fr w w' S) {base : Nat} (hb : base ≤ w.heap.size) (hS : ∀ k, S k → base ≤ k) : Below base w w' :=
  ⟨h.os, h.tape, h.output, h.size, fun k hk => h.block k (by omega) (fun hs => by have := hS k hs; omega)⟩
theorem own_base {w : World} {base : Nat} {e : TypeId} {size : Nat} {v : Value} {n : Nat} {xs : List Value} (h : w.ownsRow base e size v n xs) (k : Nat) (hk : v.ownBlock = some k) : base ≤ k := (h.lt k hk).1
theorem Dq.wide {w w' : World} {base b : Nat} {v : Value} {xs : List Int} (h : Dq w base b v xs) (hf : Fr w w' (fun k => k = b ∨ some k = v.ownBlock)) (hb : base ≤ w.heap.size) : Below base w w' :=
  hf.belowOf hb (fun k hk => by
    obtain ⟨hbb, sm, f, gs, h⟩ := h
    rcases hk with rfl | hk
    · exact hbb
    · exact own_base h.own k hk.symm)
theorem Dq.slim {w w' : World} {base b : Nat} {v : Value} {xs : List Int} (h : Dq w base b v xs) (hf : Fr w w' (fun k => k = b)) (hb : base ≤ w.heap.size) : Below base w w' :=
  h.wide (hf.mono (fun _ h => .inl h)) hb

def okPost (w : World) (e : Ending) (w' : World) : Prop := e = .returned (.bool true) ∧ Below w.heap.size w w'

set_option maxRecDepth 100000 in
set_option maxHeartbeats 1600000 in
theorem fixed_any (w : World) : Calls Try.prog 15 #[] w (okPost w) := by
  go_enter Try.func15, Try.ntmps15
  go_wp2_with fail
  refine (New_any w).mono ?_
  rintro e w1 ⟨b, rfl, hb, hd1, hf1⟩
  have f1 := Lib.hid hf1
  clear hf1
  go_wp2_with fail
  refine (Push_any w.heap.size b _ _ 1 w1 hd1 f1.out.size (by simp)).mono ?_
  rintro e w2 ⟨rfl, v2, hd2, hf2, hv2⟩
  go_wp2_with fail
  refine (Push_any w.heap.size b _ _ 2 w2 hd2 (Nat.le_trans f1.out.size hf2.size) (by simp)).mono ?_
  rintro e w3 ⟨rfl, v3, hd3, hf3, hv3⟩
  go_wp2_with fail
  refine (Push_any w.heap.size b _ _ 3 w3 hd3 (Nat.le_trans (Nat.le_trans f1.out.size hf2.size) hf3.size) (by simp)).mono ?_
  rintro e w4 ⟨rfl, v4, hd4, hf4, hv4⟩
  go_wp2_with fail
  refine (Pop_any w.heap.size b _ _ w4 hd4).mono ?_
  rintro e w5 ⟨rfl, hd5, hf5⟩
  go_wp2_with fail
  refine (Steal_any w.heap.size b _ _ w5 hd5).mono ?_
  rintro e w6 ⟨rfl, hd6, hf6⟩
  go_wp2_with fail
  refine (Len_any w.heap.size b _ _ w6 hd6).mono ?_
  rintro e w7 ⟨rfl, hd7, hf7⟩
  go_wp2_with fail
  go_ret
  have b1 : Below w.heap.size w w1 := f1.out.below
  have b2 := b1.trans (hd1.wide hf2 b1.size)
  have b3 := b2.trans (hd2.wide hf3 b2.size)
  have b4 := b3.trans (hd3.wide hf4 b3.size)
  have b5 := b4.trans (hd4.slim hf5 b4.size)
  have b6 := b5.trans (hd5.slim hf6 b5.size)
  have b7 := b6.trans (hd6.slim hf7 b6.size)
  exact ⟨rfl, b7⟩
end Go.Proofs.Yteohlbnmmlejnaa
