/-
  The walk of spareFunc.
-/
import Derived.Test.YteohlbnmmlejnaaLoE
namespace Go.Proofs.Yteohlbnmmlejnaa.PSolveLowests
open Go.RowKit Go.Proofs.YteohlbnmmlejnaaW.PrintWords
set_option linter.unusedVariables false
set_option linter.unusedSimpArgs false

/-- Of one kind or of the other. -/
def kAlt {α β : Type} (a : Kd α) (b : Kd β) (h : b.sz = a.sz) : Kd (α ⊕ β) where
  sz := a.sz
  E := a.E ++ b.E
  K := fun w x cs => match x with
    | .inl x => a.K w x cs
    | .inr x => b.K w x cs
  M := fun w base ok x cs => match x with
    | .inl x => a.M w base ok x cs
    | .inr x => b.M w base ok x cs
  K_len := by
    rintro w (x | x) cs hk
    · exact a.K_len hk
    · exact (b.K_len hk).trans h
  K_one := by
    rintro w (x | x) cs hk
    · exact a.K_one hk
    · exact b.K_one hk
  K_below := by
    rintro w w1 (x | x) cs hb hk
    · exact a.K_below hb hk
    · exact b.K_below hb hk
  K_of_M := by
    rintro w base ok (x | x) cs hk
    · exact a.K_of_M hk
    · exact b.K_of_M hk
  M_mono := by
    rintro w base ok ok' (x | x) cs ho hk
    · exact a.M_mono ho hk
    · exact b.M_mono ho hk
  M_bound := by
    rintro w base ok (x | x) cs hk
    · refine a.M_mono ?_ (a.M_bound hk)
      rintro k ⟨h2, h3, h4, q, hq, hc⟩
      exact ⟨h2, h3, h4, q, List.mem_append_left _ hq, hc⟩
    · refine b.M_mono ?_ (b.M_bound hk)
      rintro k ⟨h2, h3, h4, q, hq, hc⟩
      exact ⟨h2, h3, h4, q, List.mem_append_right _ hq, hc⟩
  M_move := by
    rintro w w1 base ok (x | x) cs hm hk
    · exact a.M_move hm hk
    · exact b.M_move hm hk
  M_lower := by
    rintro w base base' ok (x | x) cs hb hk
    · exact a.M_lower hb hk
    · exact b.M_lower hb hk

/-- An instruction whose lists have marks behind them. -/
def kRI : Kd S29 := Kd.iso (Kd.pair (Kd.int .i64) (Kd.pair (Kd.int .i64) (Kd.pair (Kd.int .i64) (Kd.pair (Kd.int .i64) (Kd.pair (Kd.int .i64) (Kd.pair (kRoom (-100)) (kRoom (-300)))))))) (fun x : S29 => (x.f0, x.f1, x.f2, x.f3, x.f4, x.f5, x.f6))
def kSp : Kd (S29 ⊕ S29) := kAlt kRI k29 rfl
theorem kRI_open {w : World} {x : S29} {cs : List Value} (h : kRI.K w x cs) : ∃ A5 c5 A6 c6, cs = [.int .i64 x.f0, .int .i64 x.f1, .int .i64 x.f2, .int .i64 x.f3, .int .i64 x.f4, .slice A5 x.f5.length c5, .slice A6 x.f6.length c6] ∧ x.f5.length + 64 ≤ c5 ∧ (Kd.int .i64).C w A5 (x.f5.length + 64) (x.f5 ++ marks (-100)) ∧ x.f6.length + 64 ≤ c6 ∧ (Kd.int .i64).C w A6 (x.f6.length + 64) (x.f6 ++ marks (-300)) := by
  obtain ⟨_, _, rfl, rfl, _, _, rfl, rfl, _, _, rfl, rfl, _, _, rfl, rfl, _, _, rfl, rfl, _, _, rfl, ⟨A5, c5, rfl, h1, h2⟩, ⟨A6, c6, rfl, h3, h4⟩⟩ := h
  exact ⟨A5, c5, A6, c6, rfl, h1, h2, h3, h4⟩
theorem kRI_mkM (w : World) (base : Nat) (ok : Nat → Prop) (x : S29) {A5 : Option Addr} {c5 : Nat} (g5 : (Kd.int .i64).R 3 w base ok (.slice A5 (x.f5.length + 64) c5) (x.f5 ++ marks (-100))) {A6 : Option Addr} {c6 : Nat} (g6 : (Kd.int .i64).R 3 w base ok (.slice A6 (x.f6.length + 64) c6) (x.f6 ++ marks (-300))) :
    kRI.M w base ok x [.int .i64 x.f0, .int .i64 x.f1, .int .i64 x.f2, .int .i64 x.f3, .int .i64 x.f4, .slice A5 x.f5.length c5, .slice A6 x.f6.length c6] :=
  ⟨[_], [_, _, _, _, _, _], rfl, rfl, [_], [_, _, _, _, _], rfl, rfl, [_], [_, _, _, _], rfl, rfl, [_], [_, _, _], rfl, rfl, [_], [_, _], rfl, rfl, [_], [_], rfl, ⟨A5, c5, rfl, g5⟩, ⟨A6, c6, rfl, g6⟩⟩
theorem cut_C {w : World} {A : Option Addr} {xs : List Int} {t : Int} (h : (Kd.int .i64).C w A (xs.length + 64) (xs ++ marks t)) : (Kd.int .i64).C w A xs.length xs := by
  have hl := h.2.1
  refine ⟨rfl, by omega, fun hn => ?_⟩
  obtain ⟨ad, e, hc⟩ := h.2.2 (by omega)
  exact ⟨ad, e, fun j p hj => hc j p (by rw [List.getElem?_append_left (List.getElem?_eq_some_iff.1 hj).1]; exact hj)⟩
/-- What is read as roomy is read. -/
theorem kRI_plain {w : World} {x : S29} {cs : List Value} (h : kRI.K w x cs) : k29.K w x cs := by
  obtain ⟨A5, c5, A6, c6, rfl, h1, h2, h3, h4⟩ := kRI_open h
  refine k29_mk w x (by omega) (cut_C h2) (by omega) (cut_C h4)

/-- The code's row with the marks behind it. -/
def spare (xs : List S29) (m : Nat) : List (S29 ⊕ S29) := xs.map .inl ++ (List.range m).map fun i : Nat => .inr ⟨-75 - (i : Int), 0, 0, 0, 0, [], []⟩
theorem spare_length (xs : List S29) (m : Nat) : (spare xs m).length = xs.length + m := by simp [spare]
theorem spare_step (xs : List S29) (m : Nat) : spare xs m ++ [.inr ⟨-75 - (m : Int), 0, 0, 0, 0, [], []⟩] = spare xs (m + 1) := by
  simp [spare, List.range_succ]
theorem spare_zero (xs : List S29) : spare xs 0 = xs.map .inl := by simp [spare]
theorem info29s : (Try.prog.info? 29).map (fun i => (i.zero, i.size, i.bytes)) = some (some (.agg #[(.int .i64 0), (.int .i64 0), (.int .i64 0), (.int .i64 0), (.int .i64 0), (.slice none 0 0), (.slice none 0 0)]), kSp.sz, 88) := by kernel_rfl

def sparePost (x0 x1 x2 : Int) (xs : List S29) (w : World) (e : Ending) (w' : World) : Prop :=
  ∃ A c, e = .returned (.agg #[.int .i64 x0, .int .i64 x1, .int .i64 x2, .slice A xs.length c]) ∧ kSp.R 29 w' w.heap.size (fun _ => True) (.slice A (xs.length + 64) c) (spare xs 64) ∧ Below w.heap.size w w'

set_option maxRecDepth 100000 in
set_option maxHeartbeats 1600000 in
theorem spareFunc_any (x0 x1 x2 : Int) (w : World) (A : Option Addr) (c : Nat) (xs : List S29) (hC : k29.C w A xs.length xs) (hc : xs.length ≤ c) (hm : xs.length ≤ 2147483647) (hs : ∀ x ∈ xs, SmallI x) :
    Calls Try.prog 10 #[.agg #[.int .i64 x0, .int .i64 x1, .int .i64 x2, .slice A xs.length c]] w (sparePost x0 x1 x2 xs w) := by
  have HC := Lib.hid hC
  have HS := Lib.hid hs
  clear hC hs
  go_enter Try.func10, Try.ntmps10
  go_wp2_with fail
  have bk1 : ((w.alloc (Obj.cells #[.int .i64 x0, .int .i64 x1, .int .i64 x2, .slice A xs.length c] 32)).alloc (Obj.cells #[.int .i64 0, .int .i64 0, .int .i64 0, .slice none 0 0] 32)).heap[w.heap.size]? = some (.cells #[.int .i64 x0, .int .i64 x1, .int .i64 x2, .slice A xs.length c] 32 (0, 0)) := blk_alloc (heap_alloc_new w _) _
  have bk2 : ((w.alloc (Obj.cells #[.int .i64 x0, .int .i64 x1, .int .i64 x2, .slice A xs.length c] 32)).alloc (Obj.cells #[.int .i64 0, .int .i64 0, .int .i64 0, .slice none 0 0] 32)).heap[w.heap.size + 1]? = some (.cells #[.int .i64 0, .int .i64 0, .int .i64 0, .slice none 0 0] 32 (0, 0)) := by simpa using heap_alloc_new (w.alloc (Obj.cells #[.int .i64 x0, .int .i64 x1, .int .i64 x2, .slice A xs.length c] 32)) _
  have hb0 : Below w.heap.size w ((w.alloc (Obj.cells #[.int .i64 x0, .int .i64 x1, .int .i64 x2, .slice A xs.length c] 32)).alloc (Obj.cells #[.int .i64 0, .int .i64 0, .int .i64 0, .slice none 0 0] 32)) := below_alloc (below_alloc (Below.refl _ _) _) _
  go_loopw [3, 4] (fun v i wr => ∃ (j : Nat) (A1 : Option Addr) (c1 : Nat), j ≤ xs.length ∧ v = .slice A1 j c1 ∧ i = .int .i64 j ∧ kSp.R 29 wr w.heap.size (fun _ => True) (.slice A1 j c1) ((xs.take j).map .inl) ∧
    wr.heap[w.heap.size]? = some (.cells #[.int .i64 x0, .int .i64 x1, .int .i64 x2, .slice A xs.length c] 32 (0, 0)) ∧ wr.heap[w.heap.size + 1]? = some (.cells #[.int .i64 0, .int .i64 0, .int .i64 0, .slice none 0 0] 32 (0, 0)) ∧ Below w.heap.size w wr) (fun _ i _ => xs.length - (intOf i).toNat)
  case atStart => exact ⟨0, none, 0, by omega, rfl, rfl, by simpa using Kd.R_nil _ _ _ _ _, bk1, bk2, hb0⟩
  case round =>
    clear bk1 bk2 hb0
    obtain ⟨j, A1, c1, hj, rfl, rfl, hR, k1, k2, hB⟩ := hrel
    have f3 : wr.cell? ⟨w.heap.size, 3, none⟩ = some (.slice A xs.length c) := (blk_cell k1 3).trans rfl
    have HR := Lib.hid hR
    have HB := Lib.hid hB
    have K1 := Lib.hid k1
    have K2 := Lib.hid k2
    clear hR hB k1 k2
    by_cases hlt : j < xs.length
    · obtain ⟨ad, A5, c5, A6, c6, hA, g0, g1, g2, g3, g4, g5, g6, l5, C5, l6, C6⟩ := at_T29 (Kd.C_below HC.out HB.out) (j : Int) (by omega) (by omega)
      subst hA
      rw [Int.toNat_natCast] at g0 g1 g2 g3 g4 g5 g6
      have hsm := HS.out _ (getD_mem xs j z29 hlt)
      rw [← rd29] at hsm
      have hxj : rd_T29 xs (j : Int) = xs[j] := by rw [rd29, List.getD_eq_getElem?_getD, List.getElem?_eq_getElem hlt, Option.getD_some]
      have HX := Lib.hid hxj
      clear hxj
      generalize rd_T29 xs (j : Int) = x at *
      obtain ⟨q0, q1, q2, q3, q4, q5, q6⟩ := x
      dsimp only at g0 g1 g2 g3 g4 g5 g6 l5 C5 l6 C6
      have H5 := Lib.hid C5
      have H6 := Lib.hid C6
      have S5 := hsm.1
      have S6 := hsm.2
      dsimp only at S5 S6
      have HS5 := Lib.hid S5
      have HS6 := Lib.hid S6
      clear C5 C6 hsm S5 S6
      go_wp2_with fail
      refine (room_any (-100) (by omega) _ A5 c5 q5 (Kd.C_alloc H5.out _) l5 HS5.out).mono ?_
      rintro e w5 ⟨A5', c5', rfl, hr5, hb5⟩
      have hsz : (wr.alloc (Obj.cells #[.int .i64 q0, .int .i64 q1, .int .i64 q2, .int .i64 q3, .int .i64 q4, .slice A5 q5.length c5, .slice A6 q6.length c6] 29)).heap.size = wr.heap.size + 1 := by simp
      have kx : w5.heap[wr.heap.size]? = some (.cells #[.int .i64 q0, .int .i64 q1, .int .i64 q2, .int .i64 q3, .int .i64 q4, .slice A5 q5.length c5, .slice A6 q6.length c6] 29 (0, 0)) := by
        rw [hb5.block _ (by omega)]
        exact heap_alloc_new wr _
      have hb5' : Below wr.heap.size wr w5 := (below_alloc (Below.refl _ _) _).trans (hb5.mono (by omega))
      have hr5' : (Kd.int .i64).R 3 (w5.setCell ⟨wr.heap.size, 5, none⟩ (.slice A5' q5.length c5')) w.heap.size (fun _ => True) (.slice A5' (q5.length + 64) c5') (q5 ++ marks (-100)) := Kd.R_set (Kd.R_lower hr5 (by have := HB.out.size; omega)) kx (by decide) 5 _
      have y5 := (blk_cell kx 5).trans rfl
      have y6 := (blk_cell kx 6).trans rfl
      have z5 := blk_frozen kx 5
      have hb6 : Below wr.heap.size wr (w5.setCell ⟨wr.heap.size, 5, none⟩ (.slice A5' q5.length c5')) := hb5'.setCell (Nat.le_refl _) _
      have kx5 := blk_put kx 5 (.slice A5' q5.length c5') rfl
      have HR5 := Lib.hid hr5'
      have HB6 := Lib.hid hb6
      have KX5 := Lib.hid kx5
      clear hr5 hb5 hsz kx hb5' hr5' hb6 kx5 g0 g1 g2 g3 g4 g5 g6
      go_wp2_with fail
      refine (room_any (-300) (by omega) _ A6 c6 q6 (Kd.C_below H6.out HB6.out) l6 HS6.out).mono ?_
      rintro e w6 ⟨A6', c6', rfl, hr6, hb6⟩
      have kx := (hb6.block _ (blk_lt KX5.out)).trans KX5.out
      have hb7 : Below wr.heap.size wr w6 := HB6.out.trans (hb6.mono HB6.out.size)
      have hr6' : (Kd.int .i64).R 3 (w6.setCell ⟨wr.heap.size, 6, none⟩ (.slice A6' q6.length c6')) w.heap.size (fun _ => True) (.slice A6' (q6.length + 64) c6') (q6 ++ marks (-300)) := Kd.R_set (Kd.R_lower hr6 (Nat.le_trans HB.out.size HB6.out.size)) kx (by decide) 6 _
      have hr7 : (Kd.int .i64).R 3 (w6.setCell ⟨wr.heap.size, 6, none⟩ (.slice A6' q6.length c6')) w.heap.size (fun _ => True) (.slice A5' (q5.length + 64) c5') (q5 ++ marks (-100)) := Kd.R_set (Kd.R_below HR5.out hb6) kx (by decide) 6 _
      have y0 := (blk_cell kx 0).trans rfl
      have y1 := (blk_cell kx 1).trans rfl
      have y2 := (blk_cell kx 2).trans rfl
      have y3 := (blk_cell kx 3).trans rfl
      have y4 := (blk_cell kx 4).trans rfl
      have y5 := (blk_cell kx 5).trans rfl
      have y6 := (blk_cell kx 6).trans rfl
      have z6 := blk_frozen kx 6
      have hb8 : Below wr.heap.size wr (w6.setCell ⟨wr.heap.size, 6, none⟩ (.slice A6' q6.length c6')) := hb7.setCell (Nat.le_refl _) _
      have hR8 : kSp.R 29 (w6.setCell ⟨wr.heap.size, 6, none⟩ (.slice A6' q6.length c6')) w.heap.size (fun _ => True) (.slice A1 j c1) ((xs.take j).map .inl) :=
        Kd.R_below HR.out hb8
      have k1 := (hb8.block _ (blk_lt K1.out)).trans K1.out
      have k2 := (hb8.block _ (blk_lt K2.out)).trans K2.out
      have hM : kSp.M (w6.setCell ⟨wr.heap.size, 6, none⟩ (.slice A6' q6.length c6')) w.heap.size (fun k => True ∧ some k ≠ (Value.slice A1 j c1).ownBlock) (.inl ⟨q0, q1, q2, q3, q4, q5, q6⟩) [.int .i64 q0, .int .i64 q1, .int .i64 q2, .int .i64 q3, .int .i64 q4, .slice A5' q5.length c5', .slice A6' q6.length c6'] :=
        kRI_mkM (w6.setCell ⟨wr.heap.size, 6, none⟩ (.slice A6' q6.length c6')) w.heap.size (fun k => True ∧ some k ≠ (Value.slice A1 j c1).ownBlock) ⟨q0, q1, q2, q3, q4, q5, q6⟩ (Kd.R_apart' hr7 (Kd.R_typed hR8) (by decide)) (Kd.R_apart' hr6' (Kd.R_typed hR8) (by decide))
      have n1 := Kd.R_ne hR8 k1 (by decide)
      have n2 := Kd.R_ne hR8 k2 (by decide)
      have HR8 := Lib.hid hR8
      have HB8 := Lib.hid hb8
      have HM := Lib.hid hM
      have K1' := Lib.hid k1
      have K2' := Lib.hid k2
      have N1 := Lib.hid n1
      have N2 := Lib.hid n2
      clear hr6 hb6 kx hb7 hr6' hr7 hb8 hR8 hM k1 k2 n1 n2 HR K1 K2 HR5 HB6 KX5
      go_wp2_with (first | (at_builtin; refine Kd.R_append kSp (w0 := w) (W := w6.setCell ⟨wr.heap.size, 6, none⟩ (.slice A6' q6.length c6')) w.heap.size rfl (.tmp 27) (.tmp 29) 30 29 _ 88 rfl Try.underlying30 info29s rfl (by decide) (by decide) (.slice A1 j c1) ((xs.take j).map .inl) (.inl ⟨q0, q1, q2, q3, q4, q5, q6⟩) _ (fun _ => True) _ rfl (by rw [show (w6.setCell ⟨wr.heap.size, 6, none⟩ (.slice A6' q6.length c6')).heap.size = w6.heap.size by simp]; rfl) HM.out (fun _ h => h) (fun _ _ => trivial) HR8.out (HB.out.trans (HB8.out.mono HB.out.size)) (Nat.le_trans HB.out.size HB8.out.size) (by simp; omega) ?_; intro u1 w7 hr9 hb9 hg9 hat9; obtain ⟨A2, c2, rfl⟩ := Kd.R_slice hr9; have k1 := (hg9.block _ (blk_lt K1'.out) N1.out).trans K1'.out; have k2 := (hg9.block _ (blk_lt K2'.out) N2.out).trans K2'.out; have HR9 := Lib.hid hr9; have HB9 := Lib.hid hb9; have K1 := Lib.hid k1; have K2 := Lib.hid k2; clear hr9 hb9 hg9 hat9 k1 k2))
      go_roundw
      case rel =>
        have hl : ((xs.take j).map Sum.inl ++ [(.inl ⟨q0, q1, q2, q3, q4, q5, q6⟩ : S29 ⊕ S29)]) = (xs.take (j + 1)).map .inl := by
          rw [List.take_add_one, List.getElem?_eq_getElem hlt, HX.out, List.map_append]
          rfl
        have hr := HR9.out
        rw [hl] at hr
        refine ⟨j + 1, A2, c2, by omega, by simp <;> omega, by go_num, ?_, K1.out, K2.out, HB9.out⟩
        rwa [show ((xs.take (j + 1)).map (Sum.inl (β := S29))).length = j + 1 by simp; omega] at hr
      case measure => simp [intOf]; omega
    · obtain rfl : j = xs.length := by omega
      obtain ⟨wo, rfl⟩ : ∃ wo : World, wo = wr := ⟨_, rfl⟩
      go_wp2_with fail
      go_loopw [3, 6] (fun v i wr => ∃ (m : Nat) (A2 : Option Addr) (c2 : Nat), m ≤ 64 ∧ v = .slice A2 (xs.length + m) c2 ∧ i = .int .i64 m ∧ kSp.R 29 wr w.heap.size (fun _ => True) (.slice A2 (xs.length + m) c2) (spare xs m) ∧
        wr.heap[w.heap.size]? = some (.cells #[.int .i64 x0, .int .i64 x1, .int .i64 x2, .slice A xs.length c] 32 (0, 0)) ∧ wr.heap[w.heap.size + 1]? = some (.cells #[.int .i64 0, .int .i64 0, .int .i64 0, .slice none 0 0] 32 (0, 0)) ∧ Below w.heap.size w wr) (fun _ i _ => 64 - (intOf i).toNat)
      case atStart => exact ⟨0, A1, c1, by omega, rfl, rfl, by rw [spare_zero]; have := HR.out; rwa [List.take_length] at this, K1.out, K2.out, HB.out⟩
      case round =>
        clear HR HB K1 K2 f3
        obtain ⟨m, A2, c2, hm2, rfl, rfl, hR, k1, k2, hB⟩ := hrel
        have n1 := Kd.R_ne hR k1 (by decide)
        have n2 := Kd.R_ne hR k2 (by decide)
        have HR := Lib.hid hR
        have HB := Lib.hid hB
        have K1 := Lib.hid k1
        have K2 := Lib.hid k2
        have N1 := Lib.hid n1
        have N2 := Lib.hid n2
        clear hR hB k1 k2 n1 n2
        by_cases hlt2 : m < 64
        · go_wp2_with (first | (at_builtin; refine Kd.R_append kSp (w0 := w) (W := wr) w.heap.size rfl (.tmp 35) (.tmp 39) 30 29 _ 88 rfl Try.underlying30 info29s rfl (by decide) (by decide) (.slice A2 (xs.length + m) c2) (spare xs m) (.inr ⟨-75 - (m : Int), 0, 0, 0, 0, [], []⟩) _ (fun _ => True) (fun _ => False) rfl rfl (k29_mkM wr w.heap.size (fun _ => False) ⟨-75 - (m : Int), 0, 0, 0, 0, [], []⟩ (Kd.R_nil _ _ _ _ _) (Kd.R_nil _ _ _ _ _)) (fun _ h => h.elim) (fun _ _ => trivial) HR.out HB.out HB.out.size (by rw [spare_length]; omega) ?_; intro u1 w7 hr9 hb9 hg9 hat9; rw [spare_step] at hr9; obtain ⟨A3, c3, rfl⟩ := Kd.R_slice hr9; have k1 := (hg9.block _ (blk_lt K1.out) N1.out).trans K1.out; have k2 := (hg9.block _ (blk_lt K2.out) N2.out).trans K2.out; have HR9 := Lib.hid hr9; have HB9 := Lib.hid hb9; have K1' := Lib.hid k1; have K2' := Lib.hid k2; clear hr9 hb9 hg9 hat9 k1 k2))
          go_roundw
          case rel =>
            have hr := HR9.out
            rw [spare_length] at hr
            exact ⟨m + 1, A3, c3, by omega, by rw [spare_length], by go_num, hr, K1'.out, K2'.out, HB9.out⟩
          case measure => simp [intOf]; omega
        · obtain rfl : m = 64 := by omega
          have hcap := (Kd.R_reads' HR.out).2.1
          have e0 := (blk_cell K1.out 0).trans rfl
          have e1 := (blk_cell K1.out 1).trans rfl
          have e2 := (blk_cell K1.out 2).trans rfl
          have e3 := (blk_cell K1.out 3).trans rfl
          have ez := blk_frozen K1.out 3
          have d0 := (blk_cell K2.out 0).trans rfl
          have d1 := (blk_cell K2.out 1).trans rfl
          have d2 := (blk_cell K2.out 2).trans rfl
          have d3 := (blk_cell K2.out 3).trans rfl
          have dz0 := blk_frozen K2.out 0
          have dz1 := blk_frozen K2.out 1
          have dz2 := blk_frozen K2.out 2
          have dz3 := blk_frozen K2.out 3
          have kk0 := blk_put (blk_far (a := ⟨w.heap.size, 3, none⟩) K2.out (.slice A2 xs.length c2) (by simp)) 0 (.int .i64 x0) rfl
          have kk1 := blk_put kk0 1 (.int .i64 x1) rfl
          have kk2 := blk_put kk1 2 (.int .i64 x2) rfl
          have kk3 := blk_put kk2 3 (.slice A2 xs.length c2) rfl
          have hr1 := Kd.R_set HR.out K1.out (by decide) 3 (.slice A2 xs.length c2)
          have hr2 := Kd.R_set hr1 (blk_far (a := ⟨w.heap.size, 3, none⟩) K2.out (.slice A2 xs.length c2) (by simp)) (by decide) 0 (.int .i64 x0)
          have hr3 := Kd.R_set hr2 kk0 (by decide) 1 (.int .i64 x1)
          have hr4 := Kd.R_set hr3 kk1 (by decide) 2 (.int .i64 x2)
          have hr5 := Kd.R_set hr4 kk2 (by decide) 3 (.slice A2 xs.length c2)
          have HR5 := Lib.hid hr5
          have KK3 := Lib.hid kk3
          clear kk0 kk1 kk2 kk3 hr1 hr2 hr3 hr4 hr5
          go_wp2_with fail
          refine bodyPost_ret (results_cell_row rfl _ _ (w.heap.size + 1) 32 #[.int .i64 x0, .int .i64 x1, .int .i64 x2, .slice A2 xs.length c2] (0, 0) _ rfl KK3.out Try.underlying32 rfl (by kernel_rfl)) rfl ?_
          refine ⟨A2, c2, rfl, HR5.out, ?_⟩
          exact below_set (below_set (below_set (below_set (below_set HB.out (Nat.le_refl _)) (by omega)) (by omega)) (by omega)) (by omega)
end Go.Proofs.Yteohlbnmmlejnaa.PSolveLowests
