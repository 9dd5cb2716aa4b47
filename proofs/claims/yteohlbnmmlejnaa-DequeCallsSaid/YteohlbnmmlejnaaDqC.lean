/-
  The ring's fit.
-/
import Derived.Test.YteohlbnmmlejnaaDqB
namespace Go.Proofs.Yteohlbnmmlejnaa
open Go.RowKit

def ints (xs : List Int) : List Value := xs.map (Value.int .i64)
@[simp] theorem ints_length (xs : List Int) : (ints xs).length = xs.length := by simp [ints]
theorem ints_get (xs : List Int) (i : Nat) : (ints xs)[i]? = (xs[i]?).map (Value.int .i64) := by simp [ints]

/-- what fit has laid after k rounds -/
def filled (xs : List Int) (S k : Nat) : List Int := xs.take k ++ List.replicate (S - k) 0
theorem filled_length (xs : List Int) (S k : Nat) (hk : k ≤ xs.length) (hS : k ≤ S) : (filled xs S k).length = S := by simp [filled]; omega
theorem filled_step (xs : List Int) (S k : Nat) (hk : k < xs.length) (hS : k < S) (x : Int) (hx : xs[k]? = some x) : (filled xs S k).set k x = filled xs S (k + 1) := by
  unfold filled
  have h1 : (xs.take k).length = k := by simp; omega
  rw [List.set_append_right _ _ (by omega), h1, Nat.sub_self]
  rw [show S - k = (S - (k + 1)) + 1 by omega, List.replicate_succ, List.set_cons_zero]
  rw [List.take_add_one, hx]
  simp

theorem ints_set (xs : List Int) (k : Nat) (x : Int) : (ints xs).set k (.int .i64 x) = ints (xs.set k x) := by simp [ints, List.map_set]
theorem own_drewN {w : World} {base : Nat} {e : TypeId} {size : Nat} {v : Value} {n : Nat} {xs : List Value} (h : w.ownsRow base e size v n xs) (m : Nat) : (w.drewN m).ownsRow base e size v n xs := h

def fitPost (w : World) (b : Nat) (st sm : Int) (xs : List Int) (T S : Nat) (e : Ending) (w' : World) : Prop :=
  e = .returned (.tuple #[]) ∧ ∃ g, w.heap.size ≤ g ∧
    w'.heap[b]? = some (.cells #[.int .i32 st, .int .u32 sm, .slice (some ⟨g, 0, none⟩) S S, .int .i64 0, .int .i64 xs.length] T (0, 0)) ∧
    w'.ownsRow w.heap.size 3 1 (.slice (some ⟨g, 0, none⟩) S S) S (ints (filled xs S xs.length)) ∧ Fr w w' (fun k => k = b)

set_option maxRecDepth 100000 in
set_option maxHeartbeats 1600000 in
theorem fit_any (b : Nat) (st sm : Int) (v : Value) (f : Int) (gs xs : List Int) (base T S : Nat) (w : World)
    (BK : w.heap[b]? = some (.cells #[.int .i32 st, .int .u32 sm, v, .int .i64 f, .int .i64 xs.length] T (0, 0)))
    (own : w.ownsRow base 3 1 v gs.length (ints gs)) (ne : v.ownBlock ≠ some b) (hf : 0 ≤ f) (hfl : f ≤ gs.length) (hlen : xs.length ≤ gs.length)
    (cont : ∀ i : Nat, i < xs.length → gs[((f + i) % (gs.length : Int)).toNat]? = xs[i]?)
    (hgl : gs.length ≤ 35184372088832) (hsz : xs.length ≤ S) (hsz2 : S ≤ 35184372088832) :
    Calls Try.prog 48 #[.pointer (some ⟨b, 2, none⟩), .int .i64 (S : Int)] w (fitPost w b st sm xs T S) := by
  obtain ⟨i0, hi, hz0, hz1, hz2⟩ := info_parts info3
  have hbl := blk_lt BK
  have h2 : w.cell? ⟨b, 2, none⟩ = some v := (blk_cell BK 2).trans rfl
  have h4 : w.cell? ⟨b, 4, none⟩ = some (.int .i64 xs.length) := (blk_cell BK 4).trans rfl
  have hS0 : (0 : Int) ≤ (S : Int) := by omega
  have hn0 : (0 : Int) ≤ (xs.length : Int) := by omega
  go_enter Try.func48, Try.ntmps48
  go_wp2_with (at_make; refine wpList_make_full _ rfl _ _ 27 rfl w.heap.size 3 i0 (.int .i64 0) 1 Try.underlying27 hi hz0 hz1 .i64 .i64 S S S rfl rfl rfl rfl (by rw [hz2]; omega) (by unfold maxLen; omega) (Nat.le_refl _) ?_; intro w1 hown1 hgrow1; have g4 : w1.cell? ⟨b, 4, none⟩ = some (.int .i64 xs.length) := hgrow1.cell h4 (by simp))
  go_loopw [12] (fun i wr => ∃ k : Nat, k ≤ xs.length ∧ i = .int .i64 k ∧ Fr w wr (fun _ => False) ∧ wr.ownsRow w.heap.size 3 1 (.slice (some ⟨w.heap.size, 0, none⟩) S S) S (ints (filled xs S k)))
    (fun i _ => xs.length - (intOf i).toNat)
  case atStart =>
    refine ⟨0, Nat.zero_le _, rfl, (Fr.refl w _).grown hgrow1 (by simp), ?_⟩
    simpa [filled, ints, toList_madeCells_one, Value.cells] using hown1
  case round =>
    obtain ⟨k, hk, rfl, hfr, hown⟩ := hrel
    clear hown1 hgrow1 g4 h2 h4
    have BKr := hfr.blk BK (fun x => x)
    have h2 : wr.cell? ⟨b, 2, none⟩ = some v := (blk_cell BKr 2).trans rfl
    have h3 : wr.cell? ⟨b, 3, none⟩ = some (.int .i64 f) := (blk_cell BKr 3).trans rfl
    by_cases hlt : k < xs.length
    · obtain ⟨R, C, rfl, hbR, hRl⟩ := own_slice own (by omega)
      have ownr := hfr.own own (fun _ _ h => h)
      have hc := cont k hlt
      have hm0 : 0 ≤ (f + (k : Int)) % (gs.length : Int) := Int.emod_nonneg _ (by omega)
      have hm1 : (f + (k : Int)) % (gs.length : Int) < (gs.length : Int) := Int.emod_lt_of_pos _ (by omega)
      have hx := ownr.cellAt ((f + (k : Int)) % (gs.length : Int)).toNat (by omega)
      rw [ints_get, hc, List.getElem?_eq_getElem hlt, Option.map_some] at hx
      have hy := hown.cellAt k (by omega)
      have hz := hown.frozenAt k
      have hfl2 := filled_length xs S k hk (by omega)
      have hk0 : (0 : Int) ≤ (k : Int) := by omega
      have hk1 : (k : Int) < (S : Int) := by omega
      have hkx : (k : Int) < (xs.length : Int) := by omega
      rw [ints_get, List.getElem?_eq_getElem (by omega), Option.map_some] at hy
      generalize hq : (f + (k : Int)) % (gs.length : Int) = q at *
      have HQ := Lib.hid hq
      clear hq
      have hxk : xs[k]? = some xs[k] := List.getElem?_eq_getElem hlt
      generalize xs[k] = x at *
      have HX := Lib.hid hxk
      clear hxk
      generalize (filled xs S k)[k] = y at *
      have HC := Lib.hid hc
      have HF := Lib.hid hfl2
      have HB := Lib.hid BKr
      clear hc hfl2 BKr BK
      go_wp2_with fail
      have hn1 : ¬ b = w.heap.size := by omega
      have hn2 : ¬ R = w.heap.size := by omega
      have hn3 : ¬ w.heap.size = b := by omega
      have hn4 : ¬ w.heap.size = R := by omega
      go_region_held3 (fun w' => w'.cell? ⟨b, 2, none⟩ = some (.slice (some ⟨R, 0, none⟩) gs.length C) ∧ w'.cell? ⟨b, 3, none⟩ = some (.int .i64 f) ∧ w'.cell? ⟨R, q.toNat, none⟩ = some (.int .i64 x)) (go_keep)
        (first | (go_at_call 49; refine (at_any b gs.length C (some ⟨R, 0, none⟩) f (k : Int) _ (by simp [h2]) (by simp [h3]) (by omega) (by omega) (by omega) (by omega) (by omega)).mono ?_; rintro e w2 ⟨rfl, n, rfl⟩; rw [HQ.out]))
      go_wp2_with fail
      go_roundw
      case rel => exact ⟨k + 1, by omega, by go_num, (hfr.drewN _).setCell _ _ (fun h => absurd h (by simp)), by have h9 := ((own_drewN hown (1 + n)).stored k (.int .i64 x)).1; rwa [ints_set, filled_step _ _ _ hlt (by omega) _ (by rw [HX.out])] at h9⟩
      case measure => simp [intOf]; omega
    · obtain rfl : k = xs.length := by omega
      have z2 := blk_frozen BKr 2
      have z3 := blk_frozen BKr 3
      have HB := Lib.hid BKr
      clear BKr BK
      go_wp2_with fail
      go_end0
      have h9 := blk_set (blk_set HB.out 2 (.slice (some ⟨w.heap.size, 0, none⟩) S S)) 3 (.int .i64 0)
      refine ⟨rfl, w.heap.size, Nat.le_refl _, h9, ?_, ?_⟩
      · refine (((Fr.refl wr (fun k => k = b)).setCell ⟨b, 2, none⟩ _ (fun _ => rfl)).setCell ⟨b, 3, none⟩ _ (fun _ => rfl)).own hown (fun k hk he => ?_)
        simp [Value.ownBlock] at hk
        omega
      · have h7 : Fr w wr (fun k => k = b) := hfr.mono (fun _ h => h.elim)
        exact (h7.setCell ⟨b, 2, none⟩ _ (fun _ => rfl)).setCell ⟨b, 3, none⟩ _ (fun _ => rfl)
end Go.Proofs.Yteohlbnmmlejnaa
