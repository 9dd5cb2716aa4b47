/-
  The ring's push and take.
-/
import Derived.Test.YteohlbnmmlejnaaDqC
namespace Go.Proofs.Yteohlbnmmlejnaa
open Go.RowKit

/-- the i-th thing of a ring -/
def Cont (f : Int) (gs xs : List Int) : Prop := ∀ i : Nat, i < xs.length → gs[((f + i) % (gs.length : Int)).toNat]? = xs[i]?

theorem mod_ne (f L : Int) (i n : Nat) (hi : i < n) (hn : (n : Int) < L) : ((f + i) % L).toNat ≠ ((f + n) % L).toNat := by
  have hL : 0 < L := by omega
  have h1 := Int.emod_nonneg (f + i) (show L ≠ 0 by omega)
  have h2 := Int.emod_nonneg (f + n) (show L ≠ 0 by omega)
  intro h
  have h3 : (f + i) % L = (f + n) % L := by omega
  have h4 : ((f + n) - (f + i)) % L = 0 := by rw [Int.sub_emod, h3]; simp
  have h5 : ((f + n) - (f + i)) = (n : Int) - i := by omega
  rw [h5, Int.emod_eq_of_lt (by omega) (by omega)] at h4
  omega

theorem cont_push {f : Int} {gs xs : List Int} (h : Cont f gs xs) (hl : xs.length < gs.length) (t : Int) :
    Cont f (gs.set ((f + (xs.length : Int)) % (gs.length : Int)).toNat t) (xs ++ [t]) := by
  intro i hi
  simp only [List.length_set]
  simp only [List.length_append, List.length_cons, List.length_nil] at hi
  by_cases h1 : i < xs.length
  · rw [List.getElem?_set_ne (Ne.symm (mod_ne f _ i xs.length h1 (by omega))), List.getElem?_append_left h1]
    exact h i h1
  · obtain rfl : i = xs.length := by omega
    have h2 := Int.emod_nonneg (f + (xs.length : Int)) (show (gs.length : Int) ≠ 0 by omega)
    have h3 := Int.emod_lt_of_pos (f + (xs.length : Int)) (show 0 < (gs.length : Int) by omega)
    rw [List.getElem?_set_self (by omega)]
    simp

theorem cont_filled (xs : List Int) (S : Nat) (hS : xs.length < S) : Cont 0 (filled xs S xs.length) xs := by
  intro i hi
  rw [filled_length _ _ _ (Nat.le_refl _) (by omega), Int.zero_add, Int.emod_eq_of_lt (by omega) (by omega)]
  simp [filled, List.getElem?_append_left, hi]

theorem cont_pop {f : Int} {gs xs : List Int} (h : Cont f gs xs) : Cont f gs xs.dropLast := by
  intro i hi
  simp only [List.length_dropLast] at hi
  rw [h i (by omega), List.getElem?_dropLast, if_pos hi]

theorem cont_steal {f : Int} {gs xs : List Int} (h : Cont f gs xs) : Cont ((f + 1) % (gs.length : Int)) gs xs.tail := by
  intro i hi
  simp only [List.length_tail] at hi
  have h1 := h (i + 1) (by omega)
  rw [List.getElem?_tail, ← h1]
  congr 2
  rw [Int.emod_add_emod]
  congr 1
  omega

structure Rg (w : World) (base b : Nat) (st sm : Int) (T : Nat) (v : Value) (f : Int) (gs xs : List Int) : Prop where
  BK : w.heap[b]? = some (.cells #[.int .i32 st, .int .u32 sm, v, .int .i64 f, .int .i64 xs.length] T (0, 0))
  own : w.ownsRow base 3 1 v gs.length (ints gs)
  ne : v.ownBlock ≠ some b
  f0 : 0 ≤ f
  fl : f < gs.length ∨ (f = 0 ∧ gs.length = 0)
  len : xs.length ≤ gs.length
  cont : Cont f gs xs
  gl : gs.length ≤ 35184372088832

def pushPost (w : World) (base b : Nat) (st sm : Int) (T : Nat) (v : Value) (xs : List Int) (t : Int) (e : Ending) (w' : World) : Prop :=
  e = .returned (.tuple #[]) ∧ ∃ v' f' gs', Rg w' base b st sm T v' f' gs' (xs ++ [t]) ∧ Fr w w' (fun k => k = b ∨ some k = v.ownBlock) ∧ (v'.ownBlock = v.ownBlock ∨ ∃ g, v'.ownBlock = some g ∧ w.heap.size ≤ g)

/-- What the last two statements of push make of a ring with room. -/
theorem push_end {w : World} {base b : Nat} {st sm : Int} {T g C : Nat} {f : Int} {gs xs : List Int} {t : Int} (h : Rg w base b st sm T (.slice (some ⟨g, 0, none⟩) gs.length C) f gs xs) (hl : xs.length < gs.length) (n : Nat) :
    Rg ((((w.drewN n).setCell ⟨g, ((f + (xs.length : Int)) % (gs.length : Int)).toNat, none⟩ (.int .i64 t))).setCell ⟨b, 4, none⟩ (.int .i64 ((xs.length : Int) + 1))) base b st sm T (.slice (some ⟨g, 0, none⟩) gs.length C) f
      (gs.set ((f + (xs.length : Int)) % (gs.length : Int)).toNat t) (xs ++ [t]) := by
  have hgb : b ≠ g := fun h1 => h.ne (by simp [Value.ownBlock, h1])
  refine ⟨?_, ?_, h.ne, h.f0, by simpa using h.fl, by simp; omega, cont_push h.cont hl t, by simpa using h.gl⟩
  · have h1 := blk_far (w := w.drewN n) (a := ⟨g, ((f + (xs.length : Int)) % (gs.length : Int)).toNat, none⟩) h.BK (.int .i64 t) hgb
    have h2 := blk_set h1 4 (.int .i64 ((xs.length : Int) + 1))
    simpa using h2
  · have h1 := ((own_drewN h.own n).stored ((f + (xs.length : Int)) % (gs.length : Int)).toNat (.int .i64 t)).1
    rw [ints_set] at h1
    have h2 := ((Fr.refl ((w.drewN n).setCell ⟨g, ((f + (xs.length : Int)) % (gs.length : Int)).toNat, none⟩ (.int .i64 t)) (fun k => k = b)).setCell ⟨b, 4, none⟩ (.int .i64 ((xs.length : Int) + 1)) (fun _ => rfl)).own h1
      (fun k hk he => by simp [Value.ownBlock] at hk; omega)
    simpa using h2

set_option maxRecDepth 100000 in
set_option maxHeartbeats 1600000 in
theorem push_any (base b : Nat) (st sm : Int) (T : Nat) (v : Value) (f : Int) (gs xs : List Int) (t : Int) (w : World) (h : Rg w base b st sm T v f gs xs) (hb : base ≤ w.heap.size) (hx : xs.length ≤ 17592186044414) :
    Calls Try.prog 40 #[.pointer (some ⟨b, 2, none⟩), .int .i64 t] w (pushPost w base b st sm T v xs t) := by
  have hbl := blk_lt h.BK
  have h2 : w.cell? ⟨b, 2, none⟩ = some v := (blk_cell h.BK 2).trans rfl
  have h3 : w.cell? ⟨b, 3, none⟩ = some (.int .i64 f) := (blk_cell h.BK 3).trans rfl
  have h4 : w.cell? ⟨b, 4, none⟩ = some (.int .i64 xs.length) := (blk_cell h.BK 4).trans rfl
  have z4 := blk_frozen h.BK 4
  have hn0 : (0 : Int) ≤ (xs.length : Int) := by omega
  by_cases hl : xs.length < gs.length
  · obtain ⟨g, C, rfl, hbg, hgl⟩ := own_slice h.own (by omega)
    have hgl2 := h.gl
    have hf0 := h.f0
    have hfl := h.fl
    have hm0 : 0 ≤ (f + (xs.length : Int)) % (gs.length : Int) := Int.emod_nonneg _ (by omega)
    have hm1 : (f + (xs.length : Int)) % (gs.length : Int) < (gs.length : Int) := Int.emod_lt_of_pos _ (by omega)
    have hy := h.own.cellAt ((f + (xs.length : Int)) % (gs.length : Int)).toNat (by omega)
    have hz := h.own.frozenAt ((f + (xs.length : Int)) % (gs.length : Int)).toNat
    obtain ⟨y, hyy⟩ : ∃ y, gs[((f + (xs.length : Int)) % (gs.length : Int)).toNat]? = some y := ⟨_, List.getElem?_eq_getElem (by omega)⟩
    rw [ints_get, hyy, Option.map_some] at hy
    clear hyy
    have hend := fun n => push_end (t := t) h hl n
    have hne : ¬ b = g := fun h1 => h.ne (by simp [Value.ownBlock, h1])
    have hne' : ¬ g = b := fun h1 => hne h1.symm
    generalize hq : (f + (xs.length : Int)) % (gs.length : Int) = q at *
    have HQ := Lib.hid hq
    clear hq
    have hd : ((xs.length : Int) == (gs.length : Int)) = false := by simp; omega
    have H := Lib.hid h
    have HE := Lib.hid hend
    clear h hend
    go_enter Try.func40, Try.ntmps40
    go_wp2_with fail
    go_quiet (fail)
    go_wp2_with fail
    go_region_held3 (fun w' => w'.cell? ⟨b, 2, none⟩ = some (.slice (some ⟨g, 0, none⟩) gs.length C) ∧ w'.cell? ⟨b, 3, none⟩ = some (.int .i64 f) ∧ w'.cell? ⟨b, 4, none⟩ = some (.int .i64 xs.length)) (go_keep)
      (first | (go_at_call 49; refine (at_any b gs.length C (some ⟨g, 0, none⟩) f (xs.length : Int) _ (by simp [h2]) (by simp [h3]) (by omega) (by omega) (by omega) (by omega) (by omega)).mono ?_; rintro e w2 ⟨rfl, n, rfl⟩; rw [HQ.out]))
    go_wp2_with fail
    go_end0
    refine ⟨rfl, _, _, _, HE.out _, ?_, .inl rfl⟩
    exact (((Fr.refl w _).drewN _).setCell ⟨g, q.toNat, none⟩ _ (fun _ => .inr rfl)).setCell ⟨b, 4, none⟩ _ (fun _ => .inl rfl)
  · have hd : ((xs.length : Int) == (gs.length : Int)) = true := by have := h.len; simp; omega
    have hfit := fun (w0 : World) (hw : ∃ n, w0 = w.drewN n) => fit_any b st sm v f gs xs base T (2 * xs.length + 4) w0 (by obtain ⟨n, rfl⟩ := hw; exact h.BK) (by obtain ⟨n, rfl⟩ := hw; exact own_drewN h.own n) h.ne h.f0
      (by have := h.fl; omega) h.len h.cont h.gl (by omega) (by omega)
    obtain ⟨A, C, hv⟩ := own_any h.own
    have HV := Lib.hid hv
    rw [hv] at h2
    clear hv
    have H := Lib.hid h
    have HF := Lib.hid hfit
    clear h hfit
    go_enter Try.func40, Try.ntmps40
    go_wp2_with fail
    go_quiet (fail)
    go_wp2_with fail
    rw [show (2 * (xs.length : Int) + 4) = ((2 * xs.length + 4 : Nat) : Int) by omega]
    refine (HF.out _ ⟨_, rfl⟩).mono ?_
    rintro e w1 ⟨rfl, g, hg, BK, own, hfr⟩
    generalize hSS : 2 * xs.length + 4 = S at *
    have hSl : xs.length < S := by omega
    have hSu : S ≤ 35184372088832 := by omega
    have hgs := filled_length xs S xs.length (Nat.le_refl _) (by omega)
    have HS := Lib.hid hSS
    clear hSS
    have hcn := cont_filled xs S hSl
    generalize filled xs S xs.length = gs1 at *
    subst hgs
    have hgw : w.heap.size ≤ g := hg
    have hne : ¬ b = g := by omega
    have hne' : ¬ g = b := by omega
    have hR : Rg w1 base b st sm T (.slice (some ⟨g, 0, none⟩) gs1.length gs1.length) 0 gs1 xs :=
      ⟨BK, own_weaken own (by simpa using hb), by simpa [Value.ownBlock] using hne', by omega, .inl (by omega), by omega, hcn, hSu⟩
    have h2 : w1.cell? ⟨b, 2, none⟩ = some (.slice (some ⟨g, 0, none⟩) gs1.length gs1.length) := (blk_cell BK 2).trans rfl
    have h3 : w1.cell? ⟨b, 3, none⟩ = some (.int .i64 0) := (blk_cell BK 3).trans rfl
    have h4 : w1.cell? ⟨b, 4, none⟩ = some (.int .i64 xs.length) := (blk_cell BK 4).trans rfl
    have z4 := blk_frozen BK 4
    have hm : ((0 : Int) + (xs.length : Int)) % (gs1.length : Int) = (xs.length : Int) := by rw [Int.zero_add]; exact Int.emod_eq_of_lt (by omega) (by omega)
    have hend := fun n => push_end (t := t) hR hSl n
    rw [hm, Int.toNat_natCast] at hend
    have hy := own.cellAt xs.length (by omega)
    have hz := own.frozenAt xs.length
    obtain ⟨y, hyy⟩ : ∃ y, gs1[xs.length]? = some y := ⟨_, List.getElem?_eq_getElem hSl⟩
    rw [ints_get, hyy, Option.map_some] at hy
    have hk1 : (xs.length : Int) < (gs1.length : Int) := by omega
    have HM := Lib.hid hm
    have HE := Lib.hid hend
    have HR := Lib.hid hR
    have HB := Lib.hid BK
    have HC := Lib.hid hcn
    clear hm hend hR BK hcn hyy hd
    go_wp2_with fail
    go_region_held3 (fun w' => w'.cell? ⟨b, 2, none⟩ = some (.slice (some ⟨g, 0, none⟩) gs1.length gs1.length) ∧ w'.cell? ⟨b, 3, none⟩ = some (.int .i64 0) ∧ w'.cell? ⟨b, 4, none⟩ = some (.int .i64 xs.length)) (go_keep)
      (first | (go_at_call 49; refine (at_any b gs1.length gs1.length (some ⟨g, 0, none⟩) 0 (xs.length : Int) _ (by simp [h2]) (by simp [h3]) (by omega) (by omega) (by omega) (by omega) (by omega)).mono ?_; rintro e w2 ⟨rfl, n, rfl⟩; rw [HM.out]))
    go_wp2_with fail
    go_end0
    refine ⟨rfl, _, _, _, HE.out _, ?_, .inr ⟨g, rfl, hgw⟩⟩
    have h7 : Fr w w1 (fun k => k = b ∨ some k = v.ownBlock) := ((Fr.refl w _).drewN _).trans hfr (fun _ _ h => .inl h)
    exact ((h7.drewN _).setCell ⟨g, xs.length, none⟩ _ (fun h => absurd h (by simp; omega))).setCell ⟨b, 4, none⟩ _ (fun _ => .inl rfl)
end Go.Proofs.Yteohlbnmmlejnaa
