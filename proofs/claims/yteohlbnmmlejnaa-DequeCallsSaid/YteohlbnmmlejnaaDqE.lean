/-
  The ring's take.
-/
import Derived.Test.YteohlbnmmlejnaaDqD
namespace Go.Proofs.Yteohlbnmmlejnaa
open Go.RowKit

def takeVal (near : Bool) (xs : List Int) : Int := if near then xs.getLast?.getD 0 else xs.head?.getD 0
def takeRest (near : Bool) (xs : List Int) : List Int := if near then xs.dropLast else xs.tail

def takePost (w : World) (base b : Nat) (st sm : Int) (T : Nat) (v : Value) (gs xs : List Int) (near : Bool) (e : Ending) (w' : World) : Prop :=
  e = .returned (.tuple #[.int .i64 (takeVal near xs), .bool (!xs.isEmpty)]) ∧ ∃ f', Rg w' base b st sm T v f' gs (takeRest near xs) ∧ Fr w w' (fun k => k = b)

theorem Rg.drewN {w : World} {base b : Nat} {st sm : Int} {T : Nat} {v : Value} {f : Int} {gs xs : List Int} (h : Rg w base b st sm T v f gs xs) (n : Nat) : Rg (w.drewN n) base b st sm T v f gs xs :=
  ⟨h.BK, own_drewN h.own n, h.ne, h.f0, h.fl, h.len, h.cont, h.gl⟩

theorem take_pop {w : World} {base b : Nat} {st sm : Int} {T : Nat} {v : Value} {f : Int} {gs xs : List Int} (h : Rg w base b st sm T v f gs xs) (hx : xs ≠ []) (n : Nat) :
    Rg ((w.setCell ⟨b, 4, none⟩ (.int .i64 ((xs.length : Int) - 1))).drewN n) base b st sm T v f gs xs.dropLast := by
  have hp := List.length_pos_iff.2 hx
  refine Rg.drewN ⟨?_, ?_, h.ne, h.f0, h.fl, by simp; have := h.len; omega, cont_pop h.cont, h.gl⟩ n
  · have h2 := blk_set h.BK 4 (.int .i64 ((xs.length : Int) - 1))
    rw [show ((xs.dropLast.length : Nat) : Int) = (xs.length : Int) - 1 by simp; omega]
    simpa using h2
  · exact ((Fr.refl w (fun k => k = b)).setCell ⟨b, 4, none⟩ _ (fun _ => rfl)).own h.own (fun k hk he => h.ne (by rw [hk, he]))

theorem take_steal {w : World} {base b : Nat} {st sm : Int} {T : Nat} {v : Value} {f : Int} {gs xs : List Int} (h : Rg w base b st sm T v f gs xs) (hx : xs ≠ []) (n : Nat) :
    Rg (((w.setCell ⟨b, 4, none⟩ (.int .i64 ((xs.length : Int) - 1))).drewN n).setCell ⟨b, 3, none⟩ (.int .i64 ((f + 1) % (gs.length : Int)))) base b st sm T v ((f + 1) % (gs.length : Int)) gs xs.tail := by
  have hp := List.length_pos_iff.2 hx
  have hl := h.len
  refine ⟨?_, ?_, h.ne, Int.emod_nonneg _ (by omega), .inl (Int.emod_lt_of_pos _ (by omega)), by simp; omega, cont_steal h.cont, h.gl⟩
  · have h2 := blk_set (w := (w.setCell ⟨b, 4, none⟩ (.int .i64 ((xs.length : Int) - 1))).drewN n) (blk_set h.BK 4 (.int .i64 ((xs.length : Int) - 1))) 3 (.int .i64 ((f + 1) % (gs.length : Int)))
    rw [show ((xs.tail.length : Nat) : Int) = (xs.length : Int) - 1 by simp; omega]
    simpa using h2
  · exact ((((Fr.refl w (fun k => k = b)).setCell ⟨b, 4, none⟩ _ (fun _ => rfl)).drewN n).setCell ⟨b, 3, none⟩ _ (fun _ => rfl)).own h.own (fun k hk he => h.ne (by rw [hk, he]))

set_option maxRecDepth 100000 in
set_option maxHeartbeats 1600000 in
theorem take_none (base b : Nat) (st sm : Int) (T : Nat) (v : Value) (f : Int) (gs : List Int) (near : Bool) (w : World) (h : Rg w base b st sm T v f gs []) :
    Calls Try.prog 47 #[.pointer (some ⟨b, 2, none⟩), .bool near] w (takePost w base b st sm T v gs [] near) := by
  have h4 : w.cell? ⟨b, 4, none⟩ = some (.int .i64 0) := (blk_cell h.BK 4).trans rfl
  have H := Lib.hid h
  clear h
  go_enter Try.func47, Try.ntmps47
  go_wp2_with fail
  go_ret2
  refine ⟨by cases near <;> rfl, f, ?_, Fr.refl _ _⟩
  have h9 := H.out
  cases near <;> exact h9

set_option maxRecDepth 100000 in
set_option maxHeartbeats 1600000 in
theorem take_any (base b : Nat) (st sm : Int) (T : Nat) (v : Value) (f : Int) (gs xs : List Int) (near : Bool) (w : World) (h : Rg w base b st sm T v f gs xs) (hx : xs ≠ []) :
    Calls Try.prog 47 #[.pointer (some ⟨b, 2, none⟩), .bool near] w (takePost w base b st sm T v gs xs near) := by
  have h2 : w.cell? ⟨b, 2, none⟩ = some v := (blk_cell h.BK 2).trans rfl
  have h3 : w.cell? ⟨b, 3, none⟩ = some (.int .i64 f) := (blk_cell h.BK 3).trans rfl
  have h4 : w.cell? ⟨b, 4, none⟩ = some (.int .i64 xs.length) := (blk_cell h.BK 4).trans rfl
  have z4 := blk_frozen h.BK 4
  have z3 := blk_frozen h.BK 3
  have hp := List.length_pos_iff.2 hx
  have hl := h.len
  have hgl2 := h.gl
  have hf0 := h.f0
  have hfl := h.fl
  obtain ⟨g, C, rfl, hbg, hgl⟩ := own_slice h.own (by omega)
  have hne : ¬ b = g := fun h1 => h.ne (by simp [Value.ownBlock, h1])
  have hne' : ¬ g = b := fun h1 => hne h1.symm
  have hn1 : (1 : Int) ≤ (xs.length : Int) := by omega
  have hnx : (xs.length : Int) ≤ (gs.length : Int) := by omega
  have hd : ((xs.length : Int) == 0) = false := by simp; omega
  have hpop := fun n => take_pop h hx n
  have hste := fun n => take_steal h hx n
  have hee : (!xs.isEmpty) = true := by cases xs <;> simp at hx ⊢
  have BK4 := blk_set h.BK 4 (.int .i64 ((xs.length : Int) - 1))
  have k2 := (blk_cell BK4 2).trans (show _ = some (Value.slice (some ⟨g, 0, none⟩) gs.length C) from rfl)
  have k3 := (blk_cell BK4 3).trans (show _ = some (Value.int .i64 f) from rfl)
  clear BK4
  cases near
  · have hm0 : 0 ≤ (f + 1) % (gs.length : Int) := Int.emod_nonneg _ (by omega)
    have hc := h.cont 0 (by omega)
    have hfl2 : f < (gs.length : Int) := by omega
    rw [Int.natCast_zero, Int.add_zero, Int.emod_eq_of_lt hf0 hfl2] at hc
    have hy := h.own.cellAt f.toNat (by omega)
    obtain ⟨y, hyy⟩ : ∃ y, xs[0]? = some y := ⟨_, List.getElem?_eq_getElem (by omega)⟩
    rw [ints_get, hc, hyy, Option.map_some] at hy
    have hv : takeVal false xs = y := by simp [takeVal, List.head?_eq_getElem?, hyy]
    have HP := Lib.hid hste
    have HV := Lib.hid hv
    have HE := Lib.hid hee
    clear hste hpop hyy hc hv h hx hee
    go_enter Try.func47, Try.ntmps47
    go_wp2_with fail
    go_quiet (fail)
    go_wp2_with fail
    refine (at_any b gs.length C (some ⟨g, 0, none⟩) f 1 _ (by simpa using k2) (by simpa using k3) (by omega) (by omega) (by omega) (by omega) (by omega)).mono ?_
    rintro e w2 ⟨rfl, n, rfl⟩
    go_wp2_with fail
    go_ret2
    refine ⟨by rw [HV.out, HE.out]; rfl, _, HP.out _, ?_⟩
    exact (((Fr.refl w (fun k => k = b)).setCell ⟨b, 4, none⟩ _ (fun _ => rfl)).drewN _).setCell ⟨b, 3, none⟩ _ (fun _ => rfl)
  · have hm0 : 0 ≤ (f + ((xs.length : Int) - 1)) % (gs.length : Int) := Int.emod_nonneg _ (by omega)
    have hm1 : (f + ((xs.length : Int) - 1)) % (gs.length : Int) < (gs.length : Int) := Int.emod_lt_of_pos _ (by omega)
    have hc := h.cont (xs.length - 1) (by omega)
    rw [show (((xs.length - 1 : Nat)) : Int) = (xs.length : Int) - 1 by omega] at hc
    have hy := h.own.cellAt ((f + ((xs.length : Int) - 1)) % (gs.length : Int)).toNat (by omega)
    obtain ⟨y, hyy⟩ : ∃ y, xs[xs.length - 1]? = some y := ⟨_, List.getElem?_eq_getElem (by omega)⟩
    rw [ints_get, hc, hyy, Option.map_some] at hy
    have hv : takeVal true xs = y := by simp [takeVal, List.getLast?_eq_getElem?, hyy]
    generalize hq : (f + ((xs.length : Int) - 1)) % (gs.length : Int) = q at *
    have hat : ∀ n0, Calls Try.prog 49 #[.pointer (some ⟨b, 2, none⟩), .int .i64 ((xs.length : Int) - 1)] ((w.setCell ⟨b, 4, none⟩ (.int .i64 ((xs.length : Int) - 1))).drewN n0) fun e w' => e = .returned (.int .i64 q) ∧ ∃ n, w' = ((w.setCell ⟨b, 4, none⟩ (.int .i64 ((xs.length : Int) - 1))).drewN n0).drewN n := fun n0 => by
      have h9 := at_any b gs.length C (some ⟨g, 0, none⟩) f ((xs.length : Int) - 1) ((w.setCell ⟨b, 4, none⟩ (.int .i64 ((xs.length : Int) - 1))).drewN n0) k2 k3 (by omega) (by omega) (by omega) (by omega) (by omega)
      rw [hq] at h9
      exact h9
    have HAT := Lib.hid hat
    have HP := Lib.hid hpop
    have HV := Lib.hid hv
    have HE := Lib.hid hee
    clear hq hat hste hpop hyy hc hv h hx hee
    go_enter Try.func47, Try.ntmps47
    go_wp2_with fail
    have k4 : (w.setCell ⟨b, 4, none⟩ (.int .i64 ((xs.length : Int) - 1))).cell? ⟨b, 4, none⟩ = some (.int .i64 ((xs.length : Int) - 1)) := World.cell?_setCell_same w ⟨b, 4, none⟩ _ h4
    have ky : (w.setCell ⟨b, 4, none⟩ (.int .i64 ((xs.length : Int) - 1))).cell? ⟨g, q.toNat, none⟩ = some (.int .i64 y) := (World.cell?_setCell_other w ⟨b, 4, none⟩ ⟨g, q.toNat, none⟩ _ (by simp)).trans hy
    go_quiet ((go_at_call 49; exact Calls.quiet_of (HAT.out _)))
    go_wp2_with fail
    go_ret2
    refine ⟨by rw [HV.out, HE.out]; rfl, _, HP.out _, ?_⟩
    exact (((Fr.refl w (fun k => k = b)).setCell ⟨b, 4, none⟩ _ (fun _ => rfl)).drewN _)
end Go.Proofs.Yteohlbnmmlejnaa
