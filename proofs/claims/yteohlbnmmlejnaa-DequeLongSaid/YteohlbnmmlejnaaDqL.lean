/-
  The walk of DequeLong.
-/
import Derived.Test.YteohlbnmmlejnaaDqG
namespace Go.Proofs.Yteohlbnmmlejnaa
open Go.RowKit

def up (a n : Nat) : List Int := (List.range n).map (fun j => ((a + j : Nat) : Int))
@[simp] theorem up_length (a n : Nat) : (up a n).length = n := by simp [up]
theorem up_snoc (a n : Nat) : up a n ++ [((a + n : Nat) : Int)] = up a (n + 1) := by simp [up, List.range_succ]
theorem up_cons (a n : Nat) : up a (n + 1) = (a : Int) :: up (a + 1) n := by
  simp only [up, List.range_succ_eq_map, List.map_cons, List.map_map, Nat.add_zero]
  congr 1
  apply List.map_congr_left
  intro j _
  simp only [Function.comp]
  omega

theorem tmod_lo (n m : Int) (hm : 0 < m) : -m < n.tmod m := by
  rcases Int.le_total 0 n with h | h
  · have := Int.tmod_nonneg m h; omega
  · have h1 := Int.tmod_lt_of_pos (-n) hm
    rw [Int.neg_tmod] at h1
    omega

set_option maxRecDepth 100000 in
set_option maxHeartbeats 3200000 in
theorem long_any (n r : Int) (w : World) : Calls Try.prog 6 #[.int .i64 n, .int .i64 r] w (okPost w) := by
  have a1 := tmod_lo n 100 (by omega)
  have a2 := Int.tmod_lt_of_pos n (show (0 : Int) < 100 by omega)
  have b1 := tmod_lo r 1000 (by omega)
  have b2 := Int.tmod_lt_of_pos r (show (0 : Int) < 1000 by omega)
  go_enter Try.func6, Try.ntmps6
  go_upto_if 22 with (first | (go_at_call 15; refine (fixed_any w).mono ?_; rintro e w1 ⟨rfl, hb1⟩))
  go_cut [6] (fun v6 wc => ∃ k : Nat, k ≤ 99 ∧ v6 = .int .i64 k ∧ wc = w1)
  case first =>
    go_wp2_with fail
    all_goals go_meet
    all_goals first
      | exact ⟨(n.tmod 100).toNat, by omega, by go_num, rfl⟩
      | exact ⟨(-n.tmod 100).toNat, by omega, by go_num, rfl⟩
  case rest =>
    obtain ⟨k, hk, rfl, rfl⟩ := hcut
    clear a1 a2
    go_upto_if 28 with fail
    go_cut [7] (fun v6 wx => ∃ m : Nat, m ≤ 999 ∧ v6 = .int .i64 m ∧ wx = wc)
    case first =>
      go_wp2_with fail
      all_goals go_meet
      all_goals first
        | exact ⟨(r.tmod 1000).toNat, by omega, by go_num, rfl⟩
        | exact ⟨(-r.tmod 1000).toNat, by omega, by go_num, rfl⟩
    case rest =>
      obtain ⟨m, hm, rfl, rfl⟩ := hcut
      clear b1 b2
      go_wp2_with (first | (go_at_call 16; refine (New_any _).mono ?_; rintro e w2 ⟨b, rfl, hb, hd1, hf1⟩; have HD := Lib.hid hd1; have HF := Lib.hid hf1.below; clear hd1 hf1))
      go_loopw [9] (fun i wr => ∃ (j : Nat) (v : Value), j ≤ k ∧ i = .int .i64 j ∧ Dq wr wc.heap.size b v (up 0 j) ∧ Below wc.heap.size wc wr) (fun i _ => k - (intOf i).toNat)
      case atStart => exact ⟨0, _, by omega, rfl, HD.out, HF.out⟩
      case round =>
        obtain ⟨j, v, hj, rfl, hdq, hbl⟩ := hrel
        have HQ := Lib.hid hdq
        have HL := Lib.hid hbl
        clear hdq hbl
        by_cases hlt : j < k
        · go_wp2_with (first | (go_at_call 23; refine (Push_any wc.heap.size b v (up 0 j) j _ HQ.out HL.out.size (by simp; omega)).mono ?_; rintro e w3 ⟨rfl, v', hd, hf, hv⟩))
          go_roundw
          case rel => exact ⟨j + 1, v', by omega, by go_num, by have := up_snoc 0 j; rw [Nat.zero_add] at this; rwa [this] at hd, HL.out.trans (HQ.out.wide hf HL.out.size)⟩
          case measure => simp [intOf]; omega
        · obtain rfl : j = k := by omega
          go_wp2_with fail
          obtain ⟨wo, rfl⟩ : ∃ wo : World, wo = wr := ⟨_, rfl⟩
          go_loopw [5, 10] (fun o i wr => ∃ (j2 : Nat) (v : Value), j2 ≤ m ∧ o = .bool true ∧ i = .int .i64 j2 ∧ Dq wr wc.heap.size b v (up j2 j) ∧ Below wc.heap.size wc wr) (fun _ i _ => m - (intOf i).toNat)
          case atStart => exact ⟨0, _, by omega, rfl, rfl, HQ.out, HL.out⟩
          case round =>
            clear HQ HL
            obtain ⟨j2, v, hj2, rfl, rfl, hdq, hbl⟩ := hrel
            have HQ := Lib.hid hdq
            have HL := Lib.hid hbl
            clear hdq hbl
            by_cases hlt2 : j2 < m
            · go_wp2_with fail
              refine (Push_any wc.heap.size b v (up j2 j) ((j : Int) + j2) _ HQ.out HL.out.size (by simp; omega)).mono ?_
              rintro e w3 ⟨rfl, v', hd, hf, hv⟩
              have hbl3 := HL.out.trans (HQ.out.wide hf HL.out.size)
              rw [show ((j : Int) + j2) = ((j2 + j : Nat) : Int) by omega, up_snoc, up_cons] at hd
              have HQ3 := Lib.hid hd
              have HL3 := Lib.hid hbl3
              clear hd hbl3 HQ HL hv hf
              go_wp2_with fail
              refine (Steal_any wc.heap.size b v' _ _ HQ3.out).mono ?_
              rintro e w4 ⟨rfl, hd, hf⟩
              have hbl4 := HL3.out.trans (HQ3.out.slim hf HL3.out.size)
              have hd4 : Dq w4 wc.heap.size b v' (up (j2 + 1) j) := hd
              have HQ4 := Lib.hid hd4
              have HL4 := Lib.hid hbl4
              clear hd hd4 hbl4 HQ3 HL3 hf
              go_wp2_with fail
              refine (Len_any wc.heap.size b v' _ _ HQ4.out).mono ?_
              rintro e w5 ⟨rfl, hd, hf⟩
              have hbl5 := HL4.out.trans (HQ4.out.slim hf HL4.out.size)
              have HQ5 := Lib.hid hd
              have HL5 := Lib.hid hbl5
              clear hd hbl5 HQ4 HL4 hf
              rw [up_length]
              go_wp2_with fail
              go_roundw
              case rel => exact ⟨j2 + 1, v', by omega, by simp, by go_num, HQ5.out, HL5.out⟩
              case measure => simp [intOf]; omega
            · obtain rfl : j2 = m := by omega
              go_wp2_with fail
              obtain ⟨wp, rfl⟩ : ∃ wp : World, wp = wr := ⟨_, rfl⟩
              go_loopw [5, 13] (fun o i wr => ∃ (j3 : Nat) (v : Value), j3 ≤ j ∧ o = .bool true ∧ i = .int .i64 ((j3 : Int) - 1) ∧ Dq wr wc.heap.size b v (up j2 j3) ∧ Below wc.heap.size wc wr) (fun _ i _ => (intOf i + 1).toNat)
              case atStart => exact ⟨j, _, by omega, rfl, rfl, HQ.out, HL.out⟩
              case round =>
                clear HQ HL
                obtain ⟨j3, v, hj3, rfl, rfl, hdq, hbl⟩ := hrel
                have HQ := Lib.hid hdq
                have HL := Lib.hid hbl
                clear hdq hbl
                cases j3 with
                | succ i3 =>
                  go_wp2_with fail
                  refine (Pop_any wc.heap.size b v _ _ HQ.out).mono ?_
                  rintro e w3 ⟨rfl, hd, hf⟩
                  have hbl3 := HL.out.trans (HQ.out.slim hf HL.out.size)
                  rw [← up_snoc] at hd
                  have hd3 : Dq w3 wc.heap.size b v (up j2 i3) := by simpa [takeRest] using hd
                  have HQ3 := Lib.hid hd3
                  have HL3 := Lib.hid hbl3
                  clear hd hd3 hbl3 HQ HL hf
                  rw [← up_snoc]
                  rw [show takeVal true (up j2 i3 ++ [((j2 + i3 : Nat) : Int)]) = ((j2 + i3 : Nat) : Int) by simp [takeVal]]
                  rw [show (!(up j2 i3 ++ [((j2 + i3 : Nat) : Int)]).isEmpty) = true by simp]
                  go_wp2_with fail
                  go_roundw
                  case rel => exact ⟨i3, v, by omega, by simp, by go_num, HQ3.out, HL3.out⟩
                  case measure => simp [intOf]
                | zero =>
                  go_wp2_with fail
                  refine (Pop_any wc.heap.size b v _ _ HQ.out).mono ?_
                  rintro e w3 ⟨rfl, hd, hf⟩
                  have hbl3 := HL.out.trans (HQ.out.slim hf HL.out.size)
                  have HL3 := Lib.hid hbl3
                  clear hd hbl3 HQ HL hf
                  rw [show (!(up j2 0).isEmpty) = false by simp [up]]
                  go_wp2_with fail
                  go_ret
                  exact ⟨rfl, hb1.trans (HL3.out.mono hb1.size)⟩
end Go.Proofs.Yteohlbnmmlejnaa
