/-
  The walk of DequeOnce.
-/
import Derived.Test.YteohlbnmmlejnaaDqN
import Derived.Test.YteohlbnmmlejnaaPDequeOncex1
namespace Go.Proofs.Yteohlbnmmlejnaa
open Go.RowKit Go.Proofs.YteohlbnmmlejnaaW.PrintWords

/-! ### EqInts, what it tells -/
theorem rd_get (xs : List Int) (i : Nat) (h : i < xs.length) : rd xs (i : Int) = xs[i] := by
  simp [rd, h]
theorem eqInts_loop (xs ys : List Int) (hl : xs.length = ys.length) (hm : xs.length ≤ 9223372036854775807) : ∀ (d i : Nat), i + d = xs.length → ∀ k, d < k →
    PDequeOnce.fugueref00_EqInts.l0 k xs ys (i : Int) = some (decide (xs.drop i = ys.drop i))
  | 0, i, hi, k, hk => by
    obtain ⟨k, rfl⟩ : ∃ m, k = m + 1 := ⟨k - 1, by omega⟩
    simp only [PDequeOnce.fugueref00_EqInts.l0]
    rw [if_neg (by omega), List.drop_of_length_le (by omega), List.drop_of_length_le (by omega)]
    rfl
  | d + 1, i, hi, k, hk => by
    obtain ⟨k, rfl⟩ : ∃ m, k = m + 1 := ⟨k - 1, by omega⟩
    have h1 : i < xs.length := by omega
    have h2 : i < ys.length := by omega
    simp only [PDequeOnce.fugueref00_EqInts.l0]
    rw [if_pos (by omega), if_pos (by omega), if_pos (by omega), rd_get xs i h1, rd_get ys i h2, List.drop_eq_getElem_cons h1, List.drop_eq_getElem_cons h2]
    by_cases he : xs[i] = ys[i]
    · rw [if_pos he, show wrap64 ((i : Int) + 1) = ((i + 1 : Nat) : Int) by unfold wrap64; omega, eqInts_loop xs ys hl hm d (i + 1) (by omega) k (by omega)]
      simp only [List.cons.injEq, he, true_and]
    · rw [if_neg he]
      simp only [List.cons.injEq, he, false_and, decide_false]
theorem eqInts_f (xs ys : List Int) (hm : xs.length ≤ 9223372036854775807) : PDequeOnce.fugueref00_EqInts.f (xs.length + 1) xs ys = some (decide (xs = ys)) := by
  unfold PDequeOnce.fugueref00_EqInts.f
  by_cases hl : xs.length = ys.length
  · rw [if_pos (by omega)]
    have h := eqInts_loop xs ys hl hm xs.length 0 (by omega) (xs.length + 1) (by omega)
    simpa using h
  · rw [if_neg (by omega)]
    have : xs ≠ ys := fun h => hl (by rw [h])
    simp [this]
theorem eqInts_any (A0 : Option Addr) (c0 : Nat) (l0 : List Int) (A1 : Option Addr) (c1 : Nat) (l1 : List Int) (w : World) (hr0 : Kd.C (Kd.int .i64) w A0 l0.length l0) (hc0 : l0.length ≤ c0) (hr1 : Kd.C (Kd.int .i64) w A1 l1.length l1) (hc1 : l1.length ≤ c1) :
    Calls Try.prog 24 #[.slice A0 l0.length c0, .slice A1 l1.length c1] w fun e w' => e = .returned (.bool (decide (l0 = l1))) ∧ ∃ n, w' = w.drewN n :=
  (PDequeOnce.fugueref00_EqInts.calls _ A0 c0 l0 A1 c1 l1 _ w hr0 hc0 hr1 hc1 (eqInts_f l0 l1 hr0.2.1)).mono fun _ _ h => ⟨h.1, h.2.1⟩

/-- 'l[1:]' of a queue of numbers. -/
theorem cut_one (A : Option Addr) (n c : Nat) (h1 : 1 ≤ n) (W : World) :
    (Instr.slice 27 (.slice A n c) (some (.int .i64 1)) none none).run Try.prog W = .ok (.slice (if c = 1 then A else A.map (·.add (1 * (Kd.int .i64).sz))) (n - 1) (c - 1)) W := by
  obtain ⟨i3, hi, hz0, hz1, hz2⟩ := info_parts info3
  have hel : Try.prog.elem 27 = 3 := by simp [Program.elem, Try.underlying27]
  have hu : Try.prog.underlying 27 = some (.slice (Try.prog.elem 27)) := by rw [hel]; exact Try.underlying27
  rw [run_slice_l W 27 A n c hu .i64 1 (by omega) (by omega), hel]
  simp [sizeOf, typeInfo, hi, hz1, sliced, Result.andThen, show (Kd.int .i64).sz = 1 from rfl]

/-! ### a deque, and beside it a list of the same -/
def Beside (w : World) (base b : Nat) (v u : Value) (xs : List Int) : Prop := (Kd.int .i64).Q 3 w base (fun k => k ≠ b ∧ some k ≠ v.ownBlock) u xs

theorem Beside.deq {w w' : World} {base b : Nat} {v v' u : Value} {xs : List Int} (h : Beside w base b v u xs) (hf : Fr w w' (fun k => k = b ∨ some k = v.ownBlock))
    (hv : v'.ownBlock = v.ownBlock ∨ ∃ g, v'.ownBlock = some g ∧ w.heap.size ≤ g) : Beside w' base b v' u xs := by
  refine Kd.Q_mono (Kd.Q_step (Kd.Q_bound h) (fun k hk hlt => hf.block k hlt (fun hs => ?_))) (fun k hk => ⟨hk.1.1, ?_⟩)
  · rcases hs with hs | hs
    · exact hk.1.1 hs
    · exact hk.1.2 hs
  · rcases hv with hv | ⟨g, hg, hl⟩
    · rw [hv]; exact hk.1.2
    · rw [hg]
      have := hk.2.2.1
      intro he
      simp at he
      omega
theorem Beside.slim {w w' : World} {base b : Nat} {v u : Value} {xs : List Int} (h : Beside w base b v u xs) (hf : Fr w w' (fun k => k = b)) : Beside w' base b v u xs :=
  h.deq (hf.mono (fun _ h => .inl h)) (.inl rfl)

set_option maxRecDepth 100000 in
set_option maxHeartbeats 3200000 in
theorem once_any (w : World) (A : Option Addr) (c : Nat) (ts : List Int) (_hc : ts.length ≤ c) (hC : (Kd.int .i64).C w A ts.length ts) (hf : ts.length * 8 ≤ 140737488351232 ∧ ∀ x ∈ ts, (Lit.int .i64 x).wf = true) :
    Calls Try.prog 5 #[.slice A ts.length c] w (okPost w) := by
  have HC := Lib.hid hC
  clear hC
  have hx : (ts.length : Int) ≤ 17592186043904 := by have := hf.1; omega
  clear hf
  go_enter Try.func5, Try.ntmps5
  go_wp2_with fail
  refine (fixed_any w).mono ?_
  rintro e w1 ⟨rfl, hb1⟩
  go_wp2_with fail
  refine (New_any w1).mono ?_
  rintro e w2 ⟨b, rfl, hb, hd1, hf1⟩
  have HD := Lib.hid hd1
  have HL := Lib.hid hf1.below
  have HB := Lib.hid hb1
  clear hd1 hf1 hb1
  go_wp2_with fail
  go_loopw [3, 5, 6, 7] (fun o p t i wr => ∃ (j q : Nat) (v u : Value) (xs : List Int), j ≤ ts.length ∧ o = .bool true ∧ p = .int .i64 q ∧ t = u ∧ i = .int .i64 j ∧ q ≤ j ∧ xs.length ≤ q ∧ Dq wr w1.heap.size b v xs ∧ Beside wr w1.heap.size b v u xs ∧ Below w1.heap.size w1 wr)
    (fun _ _ _ i _ => ts.length - (intOf i).toNat)
  case atStart => exact ⟨0, 0, _, _, [], by omega, rfl, rfl, rfl, rfl, by omega, by simp, HD.out, Kd.Q_nil _ _ _ _ _, HL.out⟩
  case round =>
    obtain ⟨j, q, v, u, xs, hj, rfl, rfl, rfl, rfl, hq, hxl, hD, hS, hL⟩ := hrel
    clear HD HL
    obtain ⟨Au, cu, rfl, hcu⟩ := Kd.Q_slice hS
    have HD := Lib.hid hD
    have HL := Lib.hid hL
    have HS := Lib.hid hS
    clear hD hL hS
    by_cases hlt : j < ts.length
    · obtain ⟨ad, x, hA, hxj, hcell⟩ := ints_at (Kd.C_below HC.out (HB.out.trans (HL.out.mono HB.out.size))) j hlt
      have HX := Lib.hid hxj
      subst hA
      clear hxj
      by_cases h0 : x = 0
      · subst h0
        by_cases he : xs = []
        · subst he
          go_wp2_with fail
          refine (Pop_any w1.heap.size b v [] _ HD.out).mono ?_
          rintro e w3 ⟨rfl, hd, hf⟩
          have HD3 := Lib.hid (show Dq w3 w1.heap.size b v [] from hd)
          have HS3 := Lib.hid (HS.out.slim hf)
          have HL3 := Lib.hid (HL.out.trans (HD.out.slim hf HL.out.size))
          clear hd hf HD HS HL hcell
          rw [show takeVal true [] = 0 from rfl]
          go_wp2_with fail
          refine (Len_any w1.heap.size b v [] _ HD3.out).mono ?_
          rintro e w4 ⟨rfl, hd, hf⟩
          have HD4 := Lib.hid hd
          have HS4 := Lib.hid (HS3.out.slim hf)
          have HL4 := Lib.hid (HL3.out.trans (HD3.out.slim hf HL3.out.size))
          clear hd hf HD3 HS3 HL3
          go_wp2_with fail
          go_roundw
          case rel => exact ⟨j + 1, q, v, _, [], by omega, by simp, rfl, rfl, by go_num, by omega, by simp, HD4.out, HS4.out, HL4.out⟩
          case measure => simp [intOf]; omega
        · have hp := List.length_pos_iff.2 he
          obtain ⟨au, y, hA, hyj, hyc⟩ := ints_at (Kd.Q_reads' HS.out).2.2 (xs.length - 1) (by omega)
          subst hA
          have hv : takeVal true xs = y := by simp [takeVal, List.getLast?_eq_getElem?, hyj]
          have HV := Lib.hid hv
          have HY := Lib.hid hyj
          have hn1 : (1 : Int) ≤ (xs.length : Int) := by omega
          have hn2 : (xs.length : Int) ≤ 17592186043904 := by omega
          have hcu' : (xs.length : Int) ≤ (cu : Int) := by omega
          clear hv hyj
          have HE := Lib.hid (show (!xs.isEmpty) = true by cases xs <;> simp at he ⊢)
          go_wp2_with fail
          refine (Pop_any w1.heap.size b v xs _ HD.out).mono ?_
          rintro e w3 ⟨rfl, hd, hf⟩
          have HD3 := Lib.hid (show Dq w3 w1.heap.size b v xs.dropLast from hd)
          have HS3 := Lib.hid (HS.out.slim hf)
          have HL3 := Lib.hid (HL.out.trans (HD.out.slim hf HL.out.size))
          clear hd hf HD HS HL hcell hyc
          obtain ⟨au', y', hA, hyj', hyc⟩ := ints_at (Kd.Q_reads' HS3.out).2.2 (xs.length - 1) (by omega)
          obtain rfl : y' = y := Option.some.inj (hyj'.symm.trans HY.out)
          obtain rfl : au' = au := (Option.some.inj hA).symm
          clear hyj' hA
          rw [HV.out, HE.out]
          go_wp2_with fail
          refine (Len_any w1.heap.size b v xs.dropLast _ HD3.out).mono ?_
          rintro e w4 ⟨rfl, hd, hf⟩
          have hs4 := HS3.out.slim hf
          have hs5 : Beside w4 w1.heap.size b v (.slice (some au') (xs.length - 1) cu) xs.dropLast := by
            rw [List.dropLast_eq_take]; exact Kd.Q_take hs4 (by omega)
          have HD4 := Lib.hid hd
          have HS4 := Lib.hid hs5
          have HL4 := Lib.hid (HL3.out.trans (HD3.out.slim hf HL3.out.size))
          clear hd hf hs4 hs5 HD3 HS3 HL3
          rw [List.length_dropLast]
          go_wp2_with fail
          go_roundw
          case rel => exact ⟨j + 1, q, v, _, xs.dropLast, by omega, by simp, rfl, rfl, by go_num, by omega, by simp; omega, HD4.out, HS4.out, HL4.out⟩
          case measure => simp [intOf]; omega
      · by_cases h1 : x = 1
        · subst h1
          by_cases he : xs = []
          · subst he
            go_wp2_with fail
            refine (Steal_any w1.heap.size b v [] _ HD.out).mono ?_
            rintro e w3 ⟨rfl, hd, hf⟩
            have HD3 := Lib.hid (show Dq w3 w1.heap.size b v [] from hd)
            have HS3 := Lib.hid (HS.out.slim hf)
            have HL3 := Lib.hid (HL.out.trans (HD.out.slim hf HL.out.size))
            clear hd hf HD HS HL hcell
            rw [show takeVal false [] = 0 from rfl]
            go_wp2_with fail
            refine (Len_any w1.heap.size b v [] _ HD3.out).mono ?_
            rintro e w4 ⟨rfl, hd, hf⟩
            have HD4 := Lib.hid hd
            have HS4 := Lib.hid (HS3.out.slim hf)
            have HL4 := Lib.hid (HL3.out.trans (HD3.out.slim hf HL3.out.size))
            clear hd hf HD3 HS3 HL3
            go_wp2_with fail
            go_roundw
            case rel => exact ⟨j + 1, q, v, _, [], by omega, by simp, rfl, rfl, by go_num, by omega, by simp, HD4.out, HS4.out, HL4.out⟩
            case measure => simp [intOf]; omega
          · have hp := List.length_pos_iff.2 he
            obtain ⟨au, y, hA, hyj, hyc⟩ := ints_at (Kd.Q_reads' HS.out).2.2 0 (by omega)
            subst hA
            have hv : takeVal false xs = y := by simp [takeVal, List.head?_eq_getElem?, hyj]
            have HV := Lib.hid hv
            have HY := Lib.hid hyj
            have hn1 : (1 : Int) ≤ (xs.length : Int) := by omega
            have hn2 : (xs.length : Int) ≤ 17592186043904 := by omega
            have hcu' : (xs.length : Int) ≤ (cu : Int) := by omega
            clear hv hyj
            have HE := Lib.hid (show (!xs.isEmpty) = true by cases xs <;> simp at he ⊢)
            have hcut := cut_one (some au) xs.length cu (by omega)
            have hs2 := Kd.Q_drop (k := 1) HS.out (by omega)
            generalize (if cu = 1 then some au else (some au).map (·.add (1 * (Kd.int .i64).sz))) = A' at hcut hs2
            have HS2 := Lib.hid (show Beside wr w1.heap.size b v (.slice A' (xs.length - 1) (cu - 1)) (xs.drop 1) from hs2)
            clear hs2
            go_wp2_with fail
            refine (Steal_any w1.heap.size b v xs _ HD.out).mono ?_
            rintro e w3 ⟨rfl, hd, hf⟩
            have HD3 := Lib.hid (show Dq w3 w1.heap.size b v xs.tail from hd)
            have HS3 := Lib.hid (HS.out.slim hf)
            have HT3 := Lib.hid (HS2.out.slim hf)
            have HL3 := Lib.hid (HL.out.trans (HD.out.slim hf HL.out.size))
            clear hd hf HD HS HL HS2 hcell hyc
            obtain ⟨au', y', hA, hyj', hyc⟩ := ints_at (Kd.Q_reads' HS3.out).2.2 0 (by omega)
            obtain rfl : y' = y := Option.some.inj (hyj'.symm.trans HY.out)
            obtain rfl : au' = au := (Option.some.inj hA).symm
            simp only [Addr.add, if_true] at hyc
            clear hyj' hA
            rw [HV.out, HE.out]
            go_wp2_with fail
            refine (Len_any w1.heap.size b v xs.tail _ HD3.out).mono ?_
            rintro e w4 ⟨rfl, hd, hf⟩
            have hs5 : Beside w4 w1.heap.size b v (.slice A' (xs.length - 1) (cu - 1)) xs.tail := by
              have := HT3.out.slim hf
              rwa [List.drop_one] at this
            have HD4 := Lib.hid hd
            have HS4 := Lib.hid hs5
            have HL4 := Lib.hid (HL3.out.trans (HD3.out.slim hf HL3.out.size))
            clear hd hf hs5 HD3 HS3 HT3 HL3
            rw [List.length_tail]
            go_wp2_with fail
            go_roundw
            case rel => exact ⟨j + 1, q, v, _, xs.tail, by omega, by simp, rfl, rfl, by go_num, by omega, by simp; omega, HD4.out, HS4.out, HL4.out⟩
            case measure => simp [intOf]; omega
        · have hq2 : (q : Int) ≤ 17592186043904 := by omega
          go_wp2_with fail
          refine (Push_any w1.heap.size b v xs ((q : Int) + 1) _ HD.out HL.out.size (by omega)).mono ?_
          rintro e w3 ⟨rfl, v', hd, hf, hv⟩
          have HD3 := Lib.hid hd
          have HS3 := Lib.hid (HS.out.deq hf hv)
          have HL3 := Lib.hid (HL.out.trans (HD.out.wide hf HL.out.size))
          have HF := Lib.hid (show ∀ k, w3.heap.size ≤ k → k ≠ b ∧ some k ≠ v'.ownBlock from fun k hk => ⟨by have := hd.lt; omega, fun e => by have := hd.room_lt k e.symm; omega⟩)
          clear hd hf hv HD HS HL hcell
          go_wp2_with (first | (at_builtin; refine Kd.Q_append (Kd.int .i64) (w0 := w1) (W := w3) w1.heap.size rfl (.tmp 40) (.tmp 42) 27 3 (.int .i64 0) 8 rfl Try.underlying27 info3 rfl (by decide) (by decide) _ xs ((q : Int) + 1) [.int .i64 ((q : Int) + 1)] (fun k => k ≠ b ∧ some k ≠ v'.ownBlock) (fun _ => False) rfl rfl rfl (fun _ h => h.elim) HF.out HS3.out HL3.out HL3.out.size (by omega) ?_; intro u1 w4 hq4 hb4 hg4 hat4))
          have hd4 := HD3.out.keep (S := fun k => some k = (Value.slice Au xs.length cu).ownBlock) ⟨hg4.os, hg4.tape, hg4.output, hg4.size, fun k hk hn => hg4.block k hk hn⟩
            (fun e => (HS3.out.1 _ e.symm).1 rfl) (fun k hk e => (HS3.out.1 _ e.symm).2 hk.symm)
          obtain ⟨A1, c1, rfl, hc1⟩ := Kd.Q_slice hq4
          have HD4 := Lib.hid hd4
          have HS4 := Lib.hid (show Beside w4 w1.heap.size b v' _ _ from hq4)
          have HL4 := Lib.hid hb4
          clear hd4 hq4 hb4 hg4 hat4 HD3 HS3 HL3 HF
          go_wp2_with fail
          refine (Len_any w1.heap.size b v' _ _ HD4.out).mono ?_
          rintro e w5 ⟨rfl, hd, hf⟩
          have HD5 := Lib.hid hd
          have HS5 := Lib.hid (HS4.out.slim hf)
          have HL5 := Lib.hid (HL4.out.trans (HD4.out.slim hf HL4.out.size))
          clear hd hf HD4 HS4 HL4
          go_wp2_with fail
          go_roundw
          case rel => exact ⟨j + 1, q + 1, v', _, _, by omega, by simp, by go_num, rfl, by go_num, by omega, by simp; omega, HD5.out, by simpa using HS5.out, HL5.out⟩
          case measure => simp [intOf]; omega
    · have hn2 : (xs.length : Int) ≤ 17592186043904 := by omega
      obtain ⟨wo, rfl⟩ : ∃ wo : World, wo = wr := ⟨_, rfl⟩
      have hr0 : (Kd.int .i64).Q 3 wo w1.heap.size (fun k => (k ≠ b ∧ some k ≠ v.ownBlock) ∧ some k ≠ (Value.slice none 0 0).ownBlock) (.slice Au xs.length cu) xs := Kd.Q_mono HS.out (fun k hk => ⟨hk, by simp [Value.ownBlock]⟩)
      have HR0 := Lib.hid hr0
      clear hr0
      go_wp2_with fail
      go_loopg [3, 12] xs.length (fun g o r wr => ∃ (k : Nat) (v' : Value), g + k = xs.length ∧ o = .bool true ∧ Dq wr w1.heap.size b v' (xs.drop k) ∧ (Kd.int .i64).Q 3 wr w1.heap.size (fun k => k ≠ b ∧ some k ≠ v'.ownBlock) r (xs.take k) ∧
        (Kd.int .i64).Q 3 wr w1.heap.size (fun k => (k ≠ b ∧ some k ≠ v'.ownBlock) ∧ some k ≠ r.ownBlock) (.slice Au xs.length cu) xs ∧ Below w1.heap.size w1 wr)
      case atStart => exact ⟨0, v, by omega, rfl, HD.out, by simpa using Kd.Q_nil _ _ _ _ _, HR0.out, HL.out⟩
      case round =>
        obtain ⟨k_, v', hk, rfl, hD, hR, hT, hL⟩ := hrel
        clear HD HL HS HR0
        obtain ⟨Ar, cr, rfl, hcr⟩ := Kd.Q_slice hR
        have hkl : (xs.take k_).length = k_ := by simp; omega
        have hqk : (k_ : Int) ≤ (q : Int) := by omega
        have HD := Lib.hid hD
        have HR := Lib.hid hR
        have HT := Lib.hid hT
        have HL := Lib.hid hL
        have HK := Lib.hid hk
        have HKL := Lib.hid hkl
        clear hD hR hT hL hkl
        by_cases hlt2 : k_ < xs.length
        · have hdl : (1 : Int) ≤ ((xs.drop k_).length : Int) := by simp; omega
          have hnb : (xs.drop k_) ≠ [] := fun h => by rw [h] at hdl; simp at hdl
          have HE := Lib.hid (show (!(xs.drop k_).isEmpty) = true by cases h : xs.drop k_ <;> simp [h] at hnb ⊢)
          have hd0 : decide ((xs.drop k_).length ≤ 0) = false := by simp; omega
          have hd0' : (0 : Int) < ((xs.drop k_).length : Int) := by omega
          clear hd0
          generalize hL0 : (xs.drop k_).length = L0 at *
          have HL0 := Lib.hid hL0
          clear hL0 hnb
          have HV := Lib.hid (show takeVal false (xs.drop k_) = xs[k_] by simp [takeVal, hlt2])
          go_wp2_with fail
          refine (Len_any w1.heap.size b v' _ _ HD.out).mono ?_
          rintro e w3 ⟨rfl, hd, hf⟩
          have HD3 := Lib.hid hd
          have HR3 := Lib.hid (show (Kd.int .i64).Q 3 w3 w1.heap.size (fun k => k ≠ b ∧ some k ≠ v'.ownBlock) (.slice Ar (xs.take k_).length cr) (xs.take k_) from Kd.Q_step HR.out (fun k hk hlt => hf.block k hlt (fun h => hk.1 h)))
          have HT3 := Lib.hid (show (Kd.int .i64).Q 3 w3 w1.heap.size (fun k => (k ≠ b ∧ some k ≠ v'.ownBlock) ∧ some k ≠ (Value.slice Ar (xs.take k_).length cr).ownBlock) (.slice Au xs.length cu) xs from Kd.Q_step HT.out (fun k hk hlt => hf.block k hlt (fun h => hk.1.1 h)))
          have HL3 := Lib.hid (HL.out.trans (HD.out.slim hf HL.out.size))
          clear hd hf HD HR HT HL
          rw [HL0.out, HKL.out]
          go_wp2_with fail
          refine (Steal_any w1.heap.size b v' _ _ HD3.out).mono ?_
          rintro e w4 ⟨rfl, hd, hf⟩
          have HD4 := Lib.hid (show Dq w4 w1.heap.size b v' (xs.drop (k_ + 1)) by simpa [takeRest, List.tail_drop] using hd)
          have HR4 := Lib.hid (show (Kd.int .i64).Q 3 w4 w1.heap.size (fun k => k ≠ b ∧ some k ≠ v'.ownBlock) (.slice Ar (xs.take k_).length cr) (xs.take k_) from Kd.Q_step HR3.out (fun k hk hlt => hf.block k hlt (fun h => hk.1 h)))
          have HT4 := Lib.hid (show (Kd.int .i64).Q 3 w4 w1.heap.size (fun k => (k ≠ b ∧ some k ≠ v'.ownBlock) ∧ some k ≠ (Value.slice Ar (xs.take k_).length cr).ownBlock) (.slice Au xs.length cu) xs from Kd.Q_step HT3.out (fun k hk hlt => hf.block k hlt (fun h => hk.1.1 h)))
          have HL4 := Lib.hid (HL3.out.trans (HD3.out.slim hf HL3.out.size))
          have HF := Lib.hid (show ∀ k, w4.heap.size ≤ k → k ≠ b ∧ some k ≠ v'.ownBlock from fun k hk => ⟨by have := hd.lt; omega, fun e => by have := hd.room_lt k e.symm; omega⟩)
          clear hd hf HD3 HR3 HT3 HL3
          rw [HV.out, HE.out]
          generalize hxk : xs[k_] = x
          have HXK := Lib.hid (show xs[k_]? = some x by rw [← hxk]; exact List.getElem?_eq_getElem hlt2)
          clear hxk HV
          go_wp2_with (first | (at_builtin; refine Kd.Q_append (Kd.int .i64) (w0 := w1) (W := w4) w1.heap.size rfl (.tmp 108) (.tmp 110) 27 3 (.int .i64 0) 8 rfl Try.underlying27 info3 rfl (by decide) (by decide) (.slice Ar (xs.take k_).length cr) (xs.take k_) x [.int .i64 x] (fun k => k ≠ b ∧ some k ≠ v'.ownBlock) (fun _ => False) (by rw [HKL.out]; rfl) rfl rfl (fun _ h => h.elim) HF.out HR4.out HL4.out HL4.out.size (by rw [HKL.out]; omega) ?_; intro u1 w5 hq4 hb4 hg4 hat4))
          have hd5 := HD4.out.keep (S := fun k => some k = (Value.slice Ar (xs.take k_).length cr).ownBlock) ⟨hg4.os, hg4.tape, hg4.output, hg4.size, fun k hk hn => hg4.block k hk hn⟩
            (fun e => (HR4.out.1 _ e.symm).1 rfl) (fun k hk e => (HR4.out.1 _ e.symm).2 hk.symm)
          have ht5 := Kd.Q_after HT4.out hg4 hat4
          rw [show xs.take k_ ++ [x] = xs.take (k_ + 1) by rw [List.take_add_one, HXK.out]; rfl] at hq4
          obtain ⟨g2, rfl⟩ : ∃ m, gk = m + 1 := ⟨gk - 1, by have := HK.out; omega⟩
          go_roundg g2
          case measure => omega
          case rel => exact ⟨k_ + 1, v', by have := HK.out; omega, rfl, hd5, hq4, ht5, hb4⟩
        · obtain rfl : k_ = xs.length := by have := HK.out; omega
          go_wp2_with fail
          refine (Len_any w1.heap.size b v' _ _ HD.out).mono ?_
          rintro e w3 ⟨rfl, hd, hf⟩
          have HR3 := Lib.hid (show (Kd.int .i64).Q 3 w3 w1.heap.size (fun k => k ≠ b ∧ some k ≠ v'.ownBlock) (.slice Ar (xs.take xs.length).length cr) (xs.take xs.length) from Kd.Q_step HR.out (fun k hk hlt => hf.block k hlt (fun h => hk.1 h)))
          have HT3 := Lib.hid (show (Kd.int .i64).Q 3 w3 w1.heap.size (fun k => (k ≠ b ∧ some k ≠ v'.ownBlock) ∧ some k ≠ (Value.slice Ar (xs.take xs.length).length cr).ownBlock) (.slice Au xs.length cu) xs from Kd.Q_step HT.out (fun k hk hlt => hf.block k hlt (fun h => hk.1.1 h)))
          have HL3 := Lib.hid (HL.out.trans (HD.out.slim hf HL.out.size))
          clear hd hf HD HR HT HL
          rw [show ((xs.drop xs.length).length : Int) = 0 by simp]
          go_wp2_with fail
          have hr4 := HR3.out
          rw [List.take_length] at hr4
          have ht4 := HT3.out
          have HEQ := Lib.hid (eqInts_any Ar cr xs Au cu xs w3 (Kd.Q_reads' hr4).2.2 (Kd.Q_reads' hr4).2.1 (Kd.Q_reads' ht4).2.2 (Kd.Q_reads' ht4).2.1)
          clear hr4 ht4 HR3 HT3
          refine (HEQ.out).mono ?_
          rintro e w4 ⟨rfl, m, rfl⟩
          rw [show decide (xs = xs) = true by simp]
          go_wp2_with fail
          go_ret
          exact ⟨rfl, HB.out.trans ((pw_below_drewN HL3.out m).mono HB.out.size)⟩
end Go.Proofs.Yteohlbnmmlejnaa
