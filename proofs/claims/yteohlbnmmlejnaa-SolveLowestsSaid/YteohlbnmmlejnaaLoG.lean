/-
  The walk of staysFunc.
-/
import Derived.Test.YteohlbnmmlejnaaLoF
namespace Go.Proofs.Yteohlbnmmlejnaa.PSolveLowests
open Go.RowKit Go.Proofs.YteohlbnmmlejnaaW.PrintWords
set_option linter.unusedVariables false
set_option linter.unusedSimpArgs false

theorem spare_at (xs : List S29) (m j : Nat) (h : j < xs.length) : (spare xs m)[j]? = some (.inl xs[j]) := by
  rw [spare, List.getElem?_append_left (by simpa using h), List.getElem?_map, List.getElem?_eq_getElem h]
  rfl
theorem spare_mark (xs : List S29) (m j : Nat) (h : j < m) : (spare xs m)[xs.length + j]? = some (.inr ⟨-75 - (j : Int), 0, 0, 0, 0, [], []⟩) := by
  rw [spare, List.getElem?_append_right (by simp)]
  simp [h]
/-- The spare row reads as the code. -/
theorem spare_plain {w : World} {A : Option Addr} {xs : List S29} (h : kSp.C w A (xs.length + 64) (spare xs 64)) : k29.C w A xs.length xs := by
  have hl := h.2.1
  refine ⟨rfl, by omega, fun hn => ?_⟩
  obtain ⟨ad, e, hc⟩ := h.2.2 (by omega)
  refine ⟨ad, e, fun j p hj => ?_⟩
  obtain ⟨hjl, hjp⟩ := List.getElem?_eq_some_iff.1 hj
  obtain ⟨c, h1, h2, h3⟩ := hc j _ (spare_at xs 64 j hjl)
  refine ⟨c, h1, ?_, h3⟩
  have h4 : kRI.K w xs[j] c := h2
  rw [hjp] at h4
  exact kRI_plain h4
theorem spare_cell {w : World} {ad : Addr} {xs : List S29} (h : kSp.C w (some ad) (xs.length + 64) (spare xs 64)) (j : Nat) (hj : j < 64) : w.cell? (ad.add ((xs.length + j) * 7)) = some (.int .i64 (-75 - (j : Int))) := by
  obtain ⟨ad', e, hc⟩ := h.2.2 (by omega)
  cases e
  obtain ⟨c, h1, h2, h3⟩ := hc _ _ (spare_mark xs 64 j hj)
  have h4 : k29.K w ⟨-75 - (j : Int), 0, 0, 0, 0, [], []⟩ c := h2
  obtain ⟨A5, c5, A6, c6, rfl, _⟩ := k29_open h4
  have h5 := h3 0 _ rfl
  exact h5
theorem spare_lists {w : World} {ad : Addr} {xs : List S29} (h : kSp.C w (some ad) (xs.length + 64) (spare xs 64)) (j : Nat) (hj : j < xs.length) :
    ∃ A5 c5 A6 c6, w.cell? ⟨(ad.add (j * 7)).block, (ad.add (j * 7)).off + 5, none⟩ = some (.slice A5 xs[j].f5.length c5) ∧ w.cell? ⟨(ad.add (j * 7)).block, (ad.add (j * 7)).off + 6, none⟩ = some (.slice A6 xs[j].f6.length c6) ∧
      xs[j].f5.length + 64 ≤ c5 ∧ (Kd.int .i64).C w A5 (xs[j].f5.length + 64) (xs[j].f5 ++ marks (-100)) ∧ xs[j].f6.length + 64 ≤ c6 ∧ (Kd.int .i64).C w A6 (xs[j].f6.length + 64) (xs[j].f6 ++ marks (-300)) := by
  obtain ⟨ad', e, hc⟩ := h.2.2 (by omega)
  cases e
  obtain ⟨c, h1, h2, h3⟩ := hc _ _ (spare_at xs 64 j hj)
  have h4 : kRI.K w xs[j] c := h2
  obtain ⟨A5, c5, A6, c6, rfl, q1, q2, q3, q4⟩ := kRI_open h4
  refine ⟨A5, c5, A6, c6, ?_, ?_, q1, q2, q3, q4⟩
  · rw [← add_field _ _ 5 (by omega)]; exact h3 5 _ rfl
  · rw [← add_field _ _ 6 (by omega)]; exact h3 6 _ rfl

theorem two_boxes {w w1 : World} (o1 o2 : Obj) (hb : Below ((w.alloc o1).alloc o2).heap.size ((w.alloc o1).alloc o2) w1) :
    w1.heap[w.heap.size]? = some o1 ∧ w1.heap[w.heap.size + 1]? = some o2 ∧ Below w.heap.size w w1 := by
  have h1 : (w.alloc o1).heap.size = w.heap.size + 1 := by simp
  have h2 : ((w.alloc o1).alloc o2).heap.size = w.heap.size + 2 := by simp
  refine ⟨(hb.block _ (by omega)).trans (blk_alloc (heap_alloc_new w o1) _), (hb.block _ (by omega)).trans ?_, (below_alloc (below_alloc (Below.refl _ _) _) _).trans (hb.mono (by omega))⟩
  have := heap_alloc_new (w.alloc o1) o2
  rwa [h1] at this

set_option maxRecDepth 100000 in
set_option maxHeartbeats 1600000 in
theorem staysFunc_any (x0 x1 x2 : Int) (w : World) (A : Option Addr) (c : Nat) (A' : Option Addr) (c' : Nat) (xs : List S29) (hC : kSp.C w A (xs.length + 64) (spare xs 64)) (hc : xs.length + 64 ≤ c) (hC' : k29.C w A' xs.length xs) (hc' : xs.length ≤ c') (hm : xs.length ≤ 2147483647) (hs : ∀ x ∈ xs, SmallI x) :
    Calls Try.prog 14 #[.agg #[.int .i64 x0, .int .i64 x1, .int .i64 x2, .slice A xs.length c], .agg #[.int .i64 x0, .int .i64 x1, .int .i64 x2, .slice A' xs.length c']] w fun e w' => e = .returned (.bool true) ∧ Below w.heap.size w w' := by
  obtain ⟨k, hk⟩ := (ev_eqFunc ⟨x0, x1, x2, xs⟩ ⟨hm, hs⟩).rounds
  obtain ⟨ad, hA, _⟩ := hC.2.2 (by omega)
  subst hA
  have HC := Lib.hid hC
  have HC' := Lib.hid hC'
  have HS := Lib.hid hs
  have HK := Lib.hid hk
  clear hC hC' hs hk
  go_enter Try.func14, Try.ntmps14
  go_wp2_with (first | (go_at_call 31; refine (fugueref00_EqFunc.calls k x0 x1 x2 (some ad) c xs x0 x1 x2 A' c' xs true _ (Kd.C_alloc (Kd.C_alloc (spare_plain HC.out) _) _) (by omega) (Kd.C_alloc (Kd.C_alloc HC'.out _) _) hc' HK.out).mono ?_; rintro e w1 ⟨rfl, hb⟩; obtain ⟨b1, b2, hb1⟩ := two_boxes _ _ hb; have f3 := (blk_cell b1 3).trans rfl; have g3 := (blk_cell b2 3).trans rfl; have HB := Lib.hid hb1; clear hb b1 b2 hb1))
  go_loopw [7] (fun i wr => ∃ j : Nat, j ≤ 64 ∧ i = .int .i64 j ∧ wr = w1) (fun i _ => 64 - (intOf i).toNat)
  case atStart => exact ⟨0, by omega, rfl, by trivial⟩
  case round =>
    obtain ⟨j, hj, rfl, rfl⟩ := hrel
    by_cases hlt : j < 64
    · have hx := spare_cell (Kd.C_below HC.out HB.out) j hlt
      have p1 : (0 : Int) ≤ (xs.length : Int) + j := by omega
      go_wp2_with fail
      go_roundw
      case rel => exact ⟨j + 1, by omega, by go_num, by trivial⟩
      case measure => simp [intOf]; omega
    · have hj2 : (64 : Int) ≤ (j : Int) := by omega
      obtain ⟨wo, rfl⟩ : ∃ wo : World, wo = wr := ⟨_, rfl⟩
      go_wp2_with fail
      go_loopw [8] (fun i wr => ∃ m : Nat, m ≤ xs.length ∧ i = .int .i64 m ∧ Below w.heap.size w wr) (fun i _ => xs.length - (intOf i).toNat)
      case atStart => exact ⟨0, by omega, rfl, HB.out⟩
      case round =>
        clear f3 g3
        obtain ⟨m, hm2, rfl, hB⟩ := hrel
        have HB2 := Lib.hid hB
        clear hB
        by_cases hlt2 : m < xs.length
        · obtain ⟨A5, c5, A6, c6, g5, g6, l5, C5, l6, C6⟩ := spare_lists (Kd.C_below HC.out HB2.out) m hlt2
          have hsm := HS.out _ (List.getElem_mem hlt2)
          have H5 := Lib.hid C5
          have H6 := Lib.hid C6
          have S5 := Lib.hid hsm.1
          have S6 := Lib.hid hsm.2
          clear C5 C6 hsm
          generalize xs[m] = x at *
          have ha5 := kept_any (-100) (by omega) wr A5 c5 x.f5 H5.out l5 S5.out
          have ha6 := kept_any (-300) (by omega) wr A6 c6 x.f6 H6.out l6 S6.out
          have HA5 := Lib.hid ha5
          have HA6 := Lib.hid ha6
          clear ha5 ha6 H5 H6 S5 S6
          go_wp2_with fail
          refine HA5.out.mono ?_
          rintro e w2 ⟨rfl, rfl⟩
          clear HA5 g5
          go_wp2_with fail
          refine HA6.out.mono ?_
          rintro e w3 ⟨rfl, rfl⟩
          clear HA6 g6
          go_wp2_with fail
          go_roundw
          case rel => exact ⟨m + 1, by omega, by go_num, HB2.out⟩
          case measure => simp [intOf]; omega
        · obtain rfl : m = xs.length := by omega
          go_wp2_with fail
          go_ret
          exact ⟨rfl, HB2.out⟩
end Go.Proofs.Yteohlbnmmlejnaa.PSolveLowests
