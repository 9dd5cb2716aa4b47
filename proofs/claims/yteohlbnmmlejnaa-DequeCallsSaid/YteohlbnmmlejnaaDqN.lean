/-
  The walk of DequeMoves.
-/
import Derived.Test.YteohlbnmmlejnaaDqM
import Derived.Test.YteohlbnmmlejnaaOpen
namespace Go.Proofs.Yteohlbnmmlejnaa
open Go.RowKit Go.Proofs.YteohlbnmmlejnaaW.PrintWords

theorem opensTasks : Opening.Opens Try.prog 27 (Kd.slice 3 (Kd.int .i64)) (fun xs => xs.length * 8 ≤ 140737488351232 ∧ ∀ x ∈ xs, (Lit.int .i64 x).wf = true) :=
  Opening.opens_slice Try.underlying27 (by kernel_rfl) (by kernel_rfl) (Opening.opens_int Try.underlying3)

theorem ints_at {w : World} {A : Option Addr} {n : Nat} {xs : List Int} (h : (Kd.int .i64).C w A n xs) (j : Nat) (hj : j < n) :
    ∃ ad x, A = some ad ∧ xs[j]? = some x ∧ w.cell? (ad.add j) = some (.int .i64 x) := by
  have hl : xs.length = n := h.1
  obtain ⟨ad, hA, hc⟩ := h.2.2 (by omega)
  obtain ⟨c, _, hk, hcell⟩ := hc j xs[j] (List.getElem?_eq_getElem (by omega))
  have hk' : c = [.int .i64 xs[j]] := hk
  have h1 := hcell 0 (.int .i64 xs[j]) (by rw [hk']; rfl)
  have hsz : (Kd.int .i64).sz = 1 := rfl
  rw [hsz, Nat.mul_one, Nat.add_zero] at h1
  exact ⟨ad, xs[j], hA, List.getElem?_eq_getElem (by omega), h1⟩

set_option maxRecDepth 100000 in
set_option maxHeartbeats 3200000 in
theorem moves_any (w : World) (A : Option Addr) (c : Nat) (xs : List Int) (_hc : xs.length ≤ c) (hC : (Kd.int .i64).C w A xs.length xs) (hf : xs.length * 8 ≤ 140737488351232 ∧ ∀ x ∈ xs, (Lit.int .i64 x).wf = true) :
    Calls Try.prog 7 #[.slice A xs.length c] w (okPost w) := by
  have HC := Lib.hid hC
  clear hC
  have hx : (xs.length : Int) ≤ 17592186043904 := by have := hf.1; omega
  clear hf
  go_enter Try.func7, Try.ntmps7
  go_wp2_with fail
  refine (fixed_any w).mono ?_
  rintro e w1 ⟨rfl, hb1⟩
  go_wp2_with fail
  refine (New_any w1).mono ?_
  rintro e w2 ⟨b1, rfl, hb, hd1, hf1⟩
  go_wp2_with fail
  refine (New_any w2).mono ?_
  rintro e w3 ⟨b2, rfl, hbb, hd2, hf2⟩
  have hT : Two w3 w1.heap.size b1 (.slice none 0 0) [] b2 (.slice none 0 0) [] := by
    refine ⟨hd1.keep hf2 (fun x => x) (fun _ _ x => x), ?_, ?_, fun k hk => by simp [Value.ownBlock] at hk⟩
    · obtain ⟨h1, sm, f, gs, h2⟩ := hd2
      exact ⟨by have := hf1.size; omega, sm, f, gs, ⟨h2.BK, own_weaken h2.own hf1.size, h2.ne, h2.f0, h2.fl, h2.len, h2.cont, h2.gl⟩⟩
    · have := hd1.lt; omega
  have hL : Below w1.heap.size w1 w3 := hf1.below.trans (hf2.below.mono hf1.size)
  have HT := Lib.hid hT
  have HL := Lib.hid hL
  have HB := Lib.hid hb1
  clear hT hL hd1 hd2 hf1 hf2 hb1
  go_wp2_with fail
  go_loopw [6] (fun i wr => ∃ (j : Nat) (v : Value), j ≤ xs.length ∧ i = .int .i64 j ∧ Two wr w1.heap.size b1 v (xs.take j) b2 (.slice none 0 0) [] ∧ Below w1.heap.size w1 wr) (fun i _ => xs.length - (intOf i).toNat)
  case atStart => exact ⟨0, _, by omega, rfl, HT.out, HL.out⟩
  case round =>
    obtain ⟨j, v, hj, rfl, hT, hL⟩ := hrel
    clear HT HL
    have HT := Lib.hid hT
    have HL := Lib.hid hL
    clear hT hL
    by_cases hlt : j < xs.length
    · obtain ⟨ad, x, hA, hxj, hcell⟩ := ints_at (Kd.C_below HC.out (HB.out.trans (HL.out.mono HB.out.size))) j hlt
      have HX := Lib.hid hxj
      have HA := Lib.hid hA
      subst hA
      clear hxj
      go_wp2_with fail
      refine (Push_any w1.heap.size b1 v (xs.take j) x _ HT.out.one HL.out.size (by simp; omega)).mono ?_
      rintro e w4 ⟨rfl, v', hd, hf, hv⟩
      have hL4 := HL.out.trans (HT.out.one.wide hf HL.out.size)
      have hT4 := HT.out.step hd hf hv
      rw [show xs.take j ++ [x] = xs.take (j + 1) by rw [List.take_add_one, HX.out]; rfl] at hT4
      have HT4 := Lib.hid hT4
      have HL4 := Lib.hid hL4
      clear hd hf hv hT4 hL4 HT HL hcell
      go_wp2_with fail
      go_roundw
      case rel => exact ⟨j + 1, v', by omega, by go_num, HT4.out, HL4.out⟩
      case measure => simp [intOf]; omega
    · obtain rfl : j = xs.length := by omega
      go_wp2_with fail
      have hT5 := HT.out
      rw [List.take_length] at hT5
      have HT5 := Lib.hid hT5
      clear hT5 HT
      refine (move_any w1.heap.size b1 b2 v _ xs false _ HT5.out HL.out.size (by omega)).mono ?_
      rintro e w5 ⟨rfl, u1, u2, hT6, hL6⟩
      have HT6 := Lib.hid hT6.symm
      have HL6 := Lib.hid (HL.out.trans hL6)
      clear hT6 hL6 HT5 HL
      go_wp2_with fail
      refine (move_any w1.heap.size b2 b1 u2 u1 xs true _ HT6.out HL6.out.size (by omega)).mono ?_
      rintro e w6 ⟨rfl, u3, u4, hT7, hL7⟩
      have hT7' := hT7.symm
      rw [if_pos rfl] at hT7'
      have HT7 := Lib.hid hT7'
      have HL7 := Lib.hid (HL6.out.trans hL7)
      clear hT7 hT7' hL7 HT6 HL6
      go_wp2_with fail
      have hrl : xs.reverse.length = xs.length := List.length_reverse
      have HRL := Lib.hid hrl
      clear hrl
      rw [← HRL.out]
      refine (move_any w1.heap.size b1 b2 u4 u3 xs.reverse true _ HT7.out HL7.out.size (by simp; omega)).mono ?_
      rintro e w7 ⟨rfl, u5, u6, hT8, hL8⟩
      have hT8' := hT8
      rw [if_pos rfl, List.reverse_reverse] at hT8'
      have HT8 := Lib.hid hT8'
      have HL8 := Lib.hid (HL7.out.trans hL8)
      clear hT8 hT8' hL8 HT7 HL7
      rw [HRL.out]
      go_wp2_with fail
      refine (Len_any w1.heap.size b1 u5 [] _ HT8.out.one).mono ?_
      rintro e w8 ⟨rfl, hd, hf⟩
      have HT9 := Lib.hid (HT8.out.slim hd hf).symm
      have HL9 := Lib.hid (HL8.out.trans (HT8.out.one.slim hf HL8.out.size))
      clear hd hf HT8 HL8
      go_wp2_with fail
      refine (Len_any w1.heap.size b2 u6 xs _ HT9.out.one).mono ?_
      rintro e w9 ⟨rfl, hd, hf⟩
      have HD := Lib.hid hd
      have HL10 := Lib.hid (HL9.out.trans (HT9.out.one.slim hf HL9.out.size))
      clear hd hf HT9 HL9
      go_wp2_with fail
      obtain ⟨wo, rfl⟩ : ∃ wo : World, wo = wr := ⟨_, rfl⟩
      go_loopw [3, 7] (fun o i wr => ∃ (k : Nat), k ≤ xs.length ∧ o = .bool true ∧ i = .int .i64 k ∧ Dq wr w1.heap.size b2 u6 (xs.drop k) ∧ Below w1.heap.size w1 wr) (fun _ i _ => xs.length - (intOf i).toNat)
      case atStart => exact ⟨0, by omega, rfl, rfl, HD.out, HL10.out⟩
      case round =>
        obtain ⟨k, hk, rfl, rfl, hD, hL⟩ := hrel
        clear HD HL10
        have HD := Lib.hid hD
        have HL := Lib.hid hL
        clear hD hL
        by_cases hlt2 : k < xs.length
        · go_wp2_with fail
          refine (Steal_any w1.heap.size b2 u6 (xs.drop k) _ HD.out).mono ?_
          rintro e w10 ⟨rfl, hd, hf⟩
          have hL11 := HL.out.trans (HD.out.slim hf HL.out.size)
          have hd' : Dq w10 w1.heap.size b2 u6 (xs.drop (k + 1)) := by simpa [takeRest, List.tail_drop] using hd
          have HD11 := Lib.hid hd'
          obtain ⟨ad, x, hA, hxj, hcell⟩ := ints_at (Kd.C_below HC.out (HB.out.trans (hL11.mono HB.out.size))) k hlt2
          subst hA
          rw [show takeVal false (xs.drop k) = x by simp [takeVal, hxj], show (!(xs.drop k).isEmpty) = true by simp; omega]
          have HL11 := Lib.hid hL11
          clear hd hf hL11 HD HL hxj hd'
          go_wp2_with fail
          go_roundw
          case rel => exact ⟨k + 1, by omega, by simp, by go_num, HD11.out, HL11.out⟩
          case measure => simp [intOf]; omega
        · obtain rfl : k = xs.length := by omega
          go_wp2_with fail
          go_ret
          exact ⟨rfl, HB.out.trans (HL.out.mono HB.out.size)⟩
end Go.Proofs.Yteohlbnmmlejnaa
