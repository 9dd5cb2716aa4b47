/-
 Part Y of what the law's proof needs: walks of the program's functions and the plain laws of what they tell. No condition.
-/
import Derived.Test.YtcbcacbbnojdjaaGreatDoorMgX
namespace Go.Proofs.YtcbcacbbnojdjaaGreatDoor
open Go.RowKit Go.Maps Go.Proofs.YtcbcacbbnojdjaaGreatDoorW.PrintWords Go.Proofs.YtcbcacbbnojdjaaGreatDoorW.PrintLast Go.Proofs.YtcbcacbbnojdjaaGreatDoorW.PrintMore Go.Proofs.YtcbcacbbnojdjaaGreatDoor.PSolveFunctions
set_option linter.unusedVariables false
set_option linter.unusedSimpArgs false
def marks (t : Int) : List Int := (List.range 64).map fun i : Nat => t - (i : Int)
theorem marks_length (t : Int) : (marks t).length = 64 := by simp [marks]
theorem marks_at (t : Int) (i : Nat) (h : i < 64) : (marks t)[i]? = some (t - (i : Int)) := by simp [marks, h]
theorem marks_take (t : Int) (i : Nat) (h : i < 64) : (marks t).take i ++ [t - (i : Int)] = (marks t).take (i + 1) := by
 rw [List.take_add_one, marks_at t i h]
 rfl
theorem marks_cell {w : World} {A : Option Addr} {xs : List Int} {t : Int} (h : (Kd.int .i64).C w A (xs.length + 64) (xs ++ marks t)) (j : Nat) (hj : j < 64) :
  ∃ ad, A = some ad ∧ w.cell? (ad.add (xs.length + j)) = some (.int .i64 (t - (j : Int))) := by
 have hl : (xs ++ marks t).length = xs.length + 64 := by rw [List.length_append, marks_length]
 obtain ⟨ad, hA, hc⟩ := h.2.2 (by omega)
 have he : (xs ++ marks t)[xs.length + j]? = some (t - (j : Int)) := by
  rw [List.getElem?_append_right (by omega), show xs.length + j - xs.length = j by omega]
  exact marks_at t j hj
 obtain ⟨c, _, hk, hcell⟩ := hc (xs.length + j) _ he
 have hk' : c = [.int .i64 (t - (j : Int))] := hk
 have h1 := hcell 0 (.int .i64 (t - (j : Int))) (by rw [hk']; rfl)
 have hsz : (Kd.int .i64).sz = 1 := rfl
 rw [hsz, Nat.mul_one, Nat.add_zero] at h1
 exact ⟨ad, hA, h1⟩
def kRoom (t : Int) : Kd (List Int) where
 sz := 1
 E := [3]
 K := fun w xs cs => ∃ A c, cs = [.slice A xs.length c] ∧ xs.length + 64 ≤ c ∧ (Kd.int .i64).C w A (xs.length + 64) (xs ++ marks t)
 M := fun w base ok xs cs => ∃ A c, cs = [.slice A xs.length c] ∧ (Kd.int .i64).R 3 w base ok (.slice A (xs.length + 64) c) (xs ++ marks t)
 K_len := by
  rintro w x cs ⟨A, c, rfl, _⟩
  rfl
 K_one := by
  rintro w x cs ⟨A, c, rfl, _⟩ u hu
  rw [List.mem_singleton.1 hu]
  rfl
 K_below := by
  rintro w w1 x cs hb ⟨A, c, rfl, hl, hr⟩
  exact ⟨A, c, rfl, hl, Kd.C_below hr hb⟩
 K_of_M := by
  rintro w base ok x cs ⟨A, c, rfl, h⟩
  obtain ⟨h1, h2, h3⟩ := Kd.R_reads' h
  refine ⟨A, c, rfl, h2, ?_⟩
  rwa [show (x ++ marks t).length = x.length + 64 by rw [List.length_append, marks_length]] at h3
 M_mono := by
  rintro w base ok ok' x cs hok ⟨A, c, rfl, h⟩
  exact ⟨A, c, rfl, Kd.R_mono h hok⟩
 M_bound := by
  rintro w base ok x cs ⟨A, c, rfl, h⟩
  exact ⟨A, c, rfl, Kd.R_bound h⟩
 M_move := by
  rintro w w1 base ok x cs hm ⟨A, c, rfl, h⟩
  exact ⟨A, c, rfl, Kd.R_move h hm⟩
 M_lower := by
  rintro w base base' ok x cs hb ⟨A, c, rfl, h⟩
  exact ⟨A, c, rfl, Kd.R_lower h hb⟩
set_option maxRecDepth 100000 in
set_option maxHeartbeats 1600000 in
theorem copyInts_any (w : World) (A : Option Addr) (c : Nat) (xs : List Int) (hC : (Kd.int .i64).C w A xs.length xs) (hm : xs.length ≤ 2147483647) :
  Calls Tryz.prog 92 #[.slice A xs.length c] w fun e w' => ∃ A1 c1, e = .returned (.slice A1 xs.length c1) ∧ (Kd.int .i64).R 3 w' w.heap.size (fun _ => True) (.slice A1 xs.length c1) xs ∧ Below w.heap.size w w' := by
 have HC := Lib.hid hC
 clear hC
 go_enter Tryz.func92, Tryz.ntmps92
 go_wp2_with fail
 go_loopw [3, 4] (fun v i wr => ∃ (j : Nat) (A1 : Option Addr) (c1 : Nat), j ≤ xs.length ∧ v = .slice A1 j c1 ∧ i = .int .i64 j ∧ (Kd.int .i64).R 3 wr w.heap.size (fun _ => True) (.slice A1 j c1) (xs.take j) ∧ Below w.heap.size w wr) (fun _ i _ => xs.length - (intOf i).toNat)
 case atStart => exact ⟨0, none, 0, by omega, rfl, rfl, Kd.R_nil _ _ _ _ _, Below.refl _ _⟩
 case round =>
  obtain ⟨j, A1, c1, hj, rfl, rfl, hR, hB⟩ := hrel
  have HR := Lib.hid hR
  have HB := Lib.hid hB
  clear hR hB
  by_cases hlt : j < xs.length
  ·obtain ⟨ad, hA, x0⟩ := Kd.at_int (Kd.C_below HC.out HB.out) (j : Int) (by omega) (by omega)
   rw [Int.toNat_natCast] at x0
   have htk : xs.take (j + 1) = xs.take j ++ [rd xs (j : Int)] := by
    rw [List.take_succ_eq_append_getElem hlt, rd, Int.toNat_natCast, List.getD_eq_getElem?_getD, List.getElem?_eq_getElem hlt]; rfl
   have htl : (xs.take j).length = j := by rw [List.length_take]; omega
   generalize rd xs (j : Int) = x at x0 htk
   have HTK := Lib.hid htk
   subst hA
   clear htk
   go_wp2_with (first | (at_builtin; refine Kd.R_append (Kd.int .i64) (w0 := w) (W := wr) w.heap.size rfl (.tmp 11) (.tmp 16) 31 3 (.int .i64 0) 8 rfl Tryz.underlying31 info3 rfl (by decide) (by decide) (.slice A1 j c1) (xs.take j) x [.int .i64 x] (fun _ => True) (fun _ => False) rfl rfl rfl (fun _ h => h.elim) (fun _ _ => trivial) HR.out HB.out HB.out.size (by rw [htl]; omega) ?_; intro u1 w4 hr4 hb4 hg4 hat4; obtain ⟨A2, c2, hu2⟩ := Kd.R_slice hr4; rw [List.length_append, htl, List.length_singleton] at hu2; subst hu2; have HR4 := Lib.hid hr4; have HB4 := Lib.hid hb4; clear hr4 hb4 hg4 hat4))
   go_roundw
   case rel => exact ⟨j + 1, A2, c2, by omega, rfl, by go_num, by rw [HTK.out]; exact HR4.out, HB4.out⟩
   case measure => simp [intOf]; omega
  ·obtain rfl : j = xs.length := by omega
   go_wp2_with fail
   go_ret
   exact ⟨A1, c1, rfl, by have := HR.out; rwa [List.take_length] at this, HB.out⟩
def roomPost (t : Int) (xs : List Int) (w : World) (e : Ending) (w' : World) : Prop :=
 ∃ A c, e = .returned (.slice A xs.length c) ∧ (Kd.int .i64).R 3 w' w.heap.size (fun _ => True) (.slice A (xs.length + 64) c) (xs ++ marks t) ∧ Below w.heap.size w w'
set_option maxRecDepth 100000 in
set_option maxHeartbeats 1600000 in
theorem room_any (t : Int) (ht : -1000 ≤ t ∧ t ≤ 0) (w : World) (A : Option Addr) (c : Nat) (xs : List Int) (hC : (Kd.int .i64).C w A xs.length xs) (hc : xs.length ≤ c) (hm : xs.length ≤ 2147483647) :
  Calls Tryz.prog 40 #[.slice A xs.length c, .int .i64 t] w (roomPost t xs w) := by
 have HC := Lib.hid hC
 clear hC
 go_enter Tryz.func40, Tryz.ntmps40
 go_wp2_with (first | (go_at_call 92; refine (copyInts_any _ A c xs HC.out hm).mono ?_; rintro e w1 ⟨A0, c0, rfl, hr, hb⟩; have HR := Lib.hid hr; have HB := Lib.hid hb; clear hr hb))
 go_loopw [5, 6] (fun v i wr => ∃ (j : Nat) (A1 : Option Addr) (c1 : Nat), j ≤ 64 ∧ v = .slice A1 (xs.length + j) c1 ∧ i = .int .i64 j ∧ (Kd.int .i64).R 3 wr w.heap.size (fun _ => True) (.slice A1 (xs.length + j) c1) (xs ++ (marks t).take j) ∧ Below w.heap.size w wr) (fun _ i _ => 64 - (intOf i).toNat)
 case atStart => exact ⟨0, A0, c0, by omega, rfl, rfl, by simp only [Nat.add_zero, List.take_zero, List.append_nil]; exact HR.out, HB.out⟩
 case round =>
  obtain ⟨j, A1, c1, hj, rfl, rfl, hR, hB⟩ := hrel
  have HR2 := Lib.hid hR
  have HB2 := Lib.hid hB
  clear hR hB HR HB
  by_cases hlt : j < 64
  ·go_wp2_with (first | (at_builtin; refine Kd.R_append (Kd.int .i64) (w0 := w) (W := wr) w.heap.size rfl (.tmp 13) (.tmp 17) 31 3 (.int .i64 0) 8 rfl Tryz.underlying31 info3 rfl (by decide) (by decide) (.slice A1 (xs.length + j) c1) (xs ++ (marks t).take j) (t - (j : Int)) [.int .i64 (t - (j : Int))] (fun _ => True) (fun _ => False) rfl rfl rfl (fun _ h => h.elim) (fun _ _ => trivial) HR2.out HB2.out HB2.out.size (by simp [marks_length]; omega) ?_; intro u1 w4 hr4 hb4 hg4 hat4; obtain ⟨A2, c2, rfl⟩ := Kd.R_slice hr4; rw [List.append_assoc, marks_take t j hlt] at hr4; have HR4 := Lib.hid hr4; have HB4 := Lib.hid hb4; clear hr4 hb4 hg4 hat4))
   go_roundw
   case rel => exact ⟨j + 1, A2, c2, by omega, by simp [marks_length]; omega, by go_num, by have := HR4.out; rwa [show (xs ++ (marks t).take (j + 1)).length = xs.length + (j + 1) by simp [marks_length]; omega] at this, HB4.out⟩
   case measure => simp [intOf]; omega
  ·obtain rfl : j = 64 := by omega
   have hcap := (Kd.R_reads' HR2.out).2.1
   go_wp2_with fail
   go_ret
   exact ⟨A1, c1, rfl, by simpa [List.take_of_length_le (show (marks t).length ≤ 64 by rw [marks_length]; omega)] using HR2.out, HB2.out⟩
set_option maxRecDepth 100000 in
set_option maxHeartbeats 1600000 in
theorem kept_any (t : Int) (ht : -1000 ≤ t ∧ t ≤ 0) (w : World) (A : Option Addr) (c : Nat) (xs : List Int) (hC : (Kd.int .i64).C w A (xs.length + 64) (xs ++ marks t)) (hc : xs.length + 64 ≤ c) (hm : xs.length ≤ 2147483647) :
  Calls Tryz.prog 56 #[.slice A xs.length c, .int .i64 t] w fun e w' => e = .returned (.bool true) ∧ w = w' := by
 have HC := Lib.hid hC
 clear hC
 go_enter Tryz.func56, Tryz.ntmps56
 go_wp2_with fail
 go_loopw [6] (fun i wr => ∃ j : Nat, j ≤ 64 ∧ i = .int .i64 j ∧ wr = w) (fun i _ => 64 - (intOf i).toNat)
 case atStart => exact ⟨0, by omega, rfl, by trivial⟩
 case round =>
  obtain ⟨j, hj, rfl, rfl⟩ := hrel
  by_cases hlt : j < 64
  ·obtain ⟨ad, hA, hx⟩ := marks_cell HC.out j hlt
   subst hA
   have p1 : (0 : Int) ≤ (xs.length : Int) + j := by omega
   go_wp2_with fail
   go_roundw
   case rel => exact ⟨j + 1, by omega, by go_num, by trivial⟩
   case measure => simp [intOf]; omega
  ·obtain rfl : j = 64 := by omega
   go_wp2_with fail
   go_ret
   exact ⟨rfl, rfl⟩
def SmallI (x : Ins) : Prop := x.f5.length ≤ 2147483647 ∧ x.f6.length ≤ 2147483647
theorem rdIns (xs : List Ins) (i : Nat) : rd_T79 xs (i : Int) = xs.getD i z79 := rfl
theorem getD_memA {α : Type} (xs : List α) (i : Nat) (d : α) (h : i < xs.length) : xs.getD i d ∈ xs := by
 rw [List.getD_eq_getElem?_getD, List.getElem?_eq_getElem h]
 exact List.getElem_mem h
def kAlt {α β : Type} (a : Kd α) (b : Kd β) (h : b.sz = a.sz) : Kd (α ⊕ β) where
 sz := a.sz
 E := a.E ++ b.E
 K := fun w x cs => match x with
  | .inl x => a.K w x cs
  | .inr x => b.K w x cs
 M := fun w base ok x cs => match x with
  | .inl x => a.M w base ok x cs
  | .inr x => b.M w base ok x cs
 K_len := by
  rintro w (x | x) cs hk
  ·exact a.K_len hk
  ·exact (b.K_len hk).trans h
 K_one := by
  rintro w (x | x) cs hk
  ·exact a.K_one hk
  ·exact b.K_one hk
 K_below := by
  rintro w w1 (x | x) cs hb hk
  ·exact a.K_below hb hk
  ·exact b.K_below hb hk
 K_of_M := by
  rintro w base ok (x | x) cs hk
  ·exact a.K_of_M hk
  ·exact b.K_of_M hk
 M_mono := by
  rintro w base ok ok' (x | x) cs ho hk
  ·exact a.M_mono ho hk
  ·exact b.M_mono ho hk
 M_bound := by
  rintro w base ok (x | x) cs hk
  ·refine a.M_mono ?_ (a.M_bound hk)
   rintro k ⟨h2, h3, h4, q, hq, hc⟩
   exact ⟨h2, h3, h4, q, List.mem_append_left _ hq, hc⟩
  ·refine b.M_mono ?_ (b.M_bound hk)
   rintro k ⟨h2, h3, h4, q, hq, hc⟩
   exact ⟨h2, h3, h4, q, List.mem_append_right _ hq, hc⟩
 M_move := by
  rintro w w1 base ok (x | x) cs hm hk
  ·exact a.M_move hm hk
  ·exact b.M_move hm hk
 M_lower := by
  rintro w base base' ok (x | x) cs hb hk
  ·exact a.M_lower hb hk
  ·exact b.M_lower hb hk
def kRI : Kd S79 := Kd.iso (Kd.pair (Kd.int .i64) (Kd.pair (Kd.int .i64) (Kd.pair (Kd.int .i64) (Kd.pair (Kd.int .i64) (Kd.pair (Kd.int .i64) (Kd.pair (kRoom (-100)) (kRoom (-300)))))))) (fun x : S79 => (x.f0, x.f1, x.f2, x.f3, x.f4, x.f5, x.f6))
def kSp : Kd (S79 ⊕ S79) := kAlt kRI k79 rfl
theorem kRI_open {w : World} {x : S79} {cs : List Value} (h : kRI.K w x cs) : ∃ A5 c5 A6 c6, cs = [.int .i64 x.f0, .int .i64 x.f1, .int .i64 x.f2, .int .i64 x.f3, .int .i64 x.f4, .slice A5 x.f5.length c5, .slice A6 x.f6.length c6] ∧ x.f5.length + 64 ≤ c5 ∧ (Kd.int .i64).C w A5 (x.f5.length + 64) (x.f5 ++ marks (-100)) ∧ x.f6.length + 64 ≤ c6 ∧ (Kd.int .i64).C w A6 (x.f6.length + 64) (x.f6 ++ marks (-300)) := by
 obtain ⟨_, _, rfl, rfl, _, _, rfl, rfl, _, _, rfl, rfl, _, _, rfl, rfl, _, _, rfl, rfl, _, _, rfl, ⟨A5, c5, rfl, h1, h2⟩, ⟨A6, c6, rfl, h3, h4⟩⟩ := h
 exact ⟨A5, c5, A6, c6, rfl, h1, h2, h3, h4⟩
theorem kRI_mkM (w : World) (base : Nat) (ok : Nat → Prop) (x : S79) {A5 : Option Addr} {c5 : Nat} (g5 : (Kd.int .i64).R 3 w base ok (.slice A5 (x.f5.length + 64) c5) (x.f5 ++ marks (-100))) {A6 : Option Addr} {c6 : Nat} (g6 : (Kd.int .i64).R 3 w base ok (.slice A6 (x.f6.length + 64) c6) (x.f6 ++ marks (-300))) :
  kRI.M w base ok x [.int .i64 x.f0, .int .i64 x.f1, .int .i64 x.f2, .int .i64 x.f3, .int .i64 x.f4, .slice A5 x.f5.length c5, .slice A6 x.f6.length c6] :=
 ⟨[_], [_, _, _, _, _, _], rfl, rfl, [_], [_, _, _, _, _], rfl, rfl, [_], [_, _, _, _], rfl, rfl, [_], [_, _, _], rfl, rfl, [_], [_, _], rfl, rfl, [_], [_], rfl, ⟨A5, c5, rfl, g5⟩, ⟨A6, c6, rfl, g6⟩⟩
theorem cut_C {w : World} {A : Option Addr} {xs : List Int} {t : Int} (h : (Kd.int .i64).C w A (xs.length + 64) (xs ++ marks t)) : (Kd.int .i64).C w A xs.length xs := by
 have hl := h.2.1
 refine ⟨rfl, by omega, fun hn => ?_⟩
 obtain ⟨ad, e, hc⟩ := h.2.2 (by omega)
 exact ⟨ad, e, fun j p hj => hc j p (by rw [List.getElem?_append_left (List.getElem?_eq_some_iff.1 hj).1]; exact hj)⟩
theorem kRI_plain {w : World} {x : S79} {cs : List Value} (h : kRI.K w x cs) : k79.K w x cs := by
 obtain ⟨A5, c5, A6, c6, rfl, h1, h2, h3, h4⟩ := kRI_open h
 refine k79_mk w x (by omega) (cut_C h2) (by omega) (cut_C h4)
def spare (xs : List S79) (m : Nat) : List (S79 ⊕ S79) := xs.map .inl ++ (List.range m).map fun i : Nat => .inr ⟨-75 - (i : Int), 0, 0, 0, 0, [], []⟩
theorem spare_length (xs : List S79) (m : Nat) : (spare xs m).length = xs.length + m := by simp [spare]
theorem spare_step (xs : List S79) (m : Nat) : spare xs m ++ [.inr ⟨-75 - (m : Int), 0, 0, 0, 0, [], []⟩] = spare xs (m + 1) := by
 simp [spare, List.range_succ]
theorem spare_zero (xs : List S79) : spare xs 0 = xs.map .inl := by simp [spare]
theorem info29s : (Tryz.prog.info? 79).map (fun i => (i.zero, i.size, i.bytes)) = some (some (.agg #[(.int .i64 0), (.int .i64 0), (.int .i64 0), (.int .i64 0), (.int .i64 0), (.slice none 0 0), (.slice none 0 0)]), kSp.sz, 88) := by kernel_rfl
def sparePost (x0 x1 x2 : Int) (xs : List S79) (w : World) (e : Ending) (w' : World) : Prop :=
 ∃ A c, e = .returned (.agg #[.int .i64 x0, .int .i64 x1, .int .i64 x2, .slice A xs.length c]) ∧ Kd.S kSp 79 w' w.heap.size (fun _ => True) (.slice A (xs.length + 64) c) (spare xs 64) ∧ Below w.heap.size w w'
set_option maxRecDepth 100000 in
set_option maxHeartbeats 1600000 in
theorem spareFunc_any (x0 x1 x2 : Int) (w : World) (A : Option Addr) (c : Nat) (xs : List S79) (hC : k79.C w A xs.length xs) (hc : xs.length ≤ c) (hm : xs.length ≤ 2147483647) (hs : ∀ x ∈ xs, SmallI x) :
  Calls Tryz.prog 39 #[.agg #[.int .i64 x0, .int .i64 x1, .int .i64 x2, .slice A xs.length c]] w (sparePost x0 x1 x2 xs w) := by
 have HC := Lib.hid hC
 have HS := Lib.hid hs
 clear hC hs
 go_enter Tryz.func39, Tryz.ntmps39
 go_wp2_with fail
 have bk1 : ((w.alloc (Obj.cells #[.int .i64 x0, .int .i64 x1, .int .i64 x2, .slice A xs.length c] 66)).alloc (Obj.cells #[.int .i64 0, .int .i64 0, .int .i64 0, .slice none 0 0] 66)).heap[w.heap.size]? = some (.cells #[.int .i64 x0, .int .i64 x1, .int .i64 x2, .slice A xs.length c] 66 (0, 0)) := blk_alloc (heap_alloc_new w _) _
 have bk2 : ((w.alloc (Obj.cells #[.int .i64 x0, .int .i64 x1, .int .i64 x2, .slice A xs.length c] 66)).alloc (Obj.cells #[.int .i64 0, .int .i64 0, .int .i64 0, .slice none 0 0] 66)).heap[w.heap.size + 1]? = some (.cells #[.int .i64 0, .int .i64 0, .int .i64 0, .slice none 0 0] 66 (0, 0)) := by simpa using heap_alloc_new (w.alloc (Obj.cells #[.int .i64 x0, .int .i64 x1, .int .i64 x2, .slice A xs.length c] 66)) _
 have hb0 : Below w.heap.size w ((w.alloc (Obj.cells #[.int .i64 x0, .int .i64 x1, .int .i64 x2, .slice A xs.length c] 66)).alloc (Obj.cells #[.int .i64 0, .int .i64 0, .int .i64 0, .slice none 0 0] 66)) := below_alloc (below_alloc (Below.refl _ _) _) _
 go_loopw [3, 4] (fun v i wr => ∃ (j : Nat) (A1 : Option Addr) (c1 : Nat), j ≤ xs.length ∧ v = .slice A1 j c1 ∧ i = .int .i64 j ∧ Kd.S kSp 79 wr w.heap.size (fun _ => True) (.slice A1 j c1) ((xs.take j).map .inl) ∧
  wr.heap[w.heap.size]? = some (.cells #[.int .i64 x0, .int .i64 x1, .int .i64 x2, .slice A xs.length c] 66 (0, 0)) ∧ wr.heap[w.heap.size + 1]? = some (.cells #[.int .i64 0, .int .i64 0, .int .i64 0, .slice none 0 0] 66 (0, 0)) ∧ Below w.heap.size w wr) (fun _ i _ => xs.length - (intOf i).toNat)
 case atStart => exact ⟨0, none, 0, by omega, rfl, rfl, by simpa using Kd.S_nil _ _ _ _ _, bk1, bk2, hb0⟩
 case round =>
  clear bk1 bk2 hb0
  obtain ⟨j, A1, c1, hj, rfl, rfl, hR, k1, k2, hB⟩ := hrel
  have f3 : wr.cell? ⟨w.heap.size, 3, none⟩ = some (.slice A xs.length c) := (blk_cell k1 3).trans rfl
  have HR := Lib.hid hR
  have HB := Lib.hid hB
  have K1 := Lib.hid k1
  have K2 := Lib.hid k2
  clear hR hB k1 k2
  by_cases hlt : j < xs.length
  ·obtain ⟨ad, A5, c5, A6, c6, hA, g0, g1, g2, g3, g4, g5, g6, l5, C5, l6, C6⟩ := at_T79 (Kd.C_below HC.out HB.out) (j : Int) (by omega) (by omega)
   subst hA
   rw [Int.toNat_natCast] at g0 g1 g2 g3 g4 g5 g6
   have hsm := HS.out _ (getD_memA xs j z79 hlt)
   rw [← rdIns] at hsm
   have hxj : rd_T79 xs (j : Int) = xs[j] := by rw [rdIns, List.getD_eq_getElem?_getD, List.getElem?_eq_getElem hlt, Option.getD_some]
   have HX := Lib.hid hxj
   clear hxj
   generalize rd_T79 xs (j : Int) = x at *
   obtain ⟨q0, q1, q2, q3, q4, q5, q6⟩ := x
   dsimp only at g0 g1 g2 g3 g4 g5 g6 l5 C5 l6 C6
   have H5 := Lib.hid C5
   have H6 := Lib.hid C6
   have S5 := hsm.1
   have S6 := hsm.2
   dsimp only at S5 S6
   have HS5 := Lib.hid S5
   have HS6 := Lib.hid S6
   clear C5 C6 hsm S5 S6
   go_wp2_with fail
   refine (room_any (-100) (by omega) _ A5 c5 q5 (Kd.C_alloc H5.out _) l5 HS5.out).mono ?_
   rintro e w5 ⟨A5', c5', rfl, hr5, hb5⟩
   have hsz : (wr.alloc (Obj.cells #[.int .i64 q0, .int .i64 q1, .int .i64 q2, .int .i64 q3, .int .i64 q4, .slice A5 q5.length c5, .slice A6 q6.length c6] 79)).heap.size = wr.heap.size + 1 := by simp
   have kx : w5.heap[wr.heap.size]? = some (.cells #[.int .i64 q0, .int .i64 q1, .int .i64 q2, .int .i64 q3, .int .i64 q4, .slice A5 q5.length c5, .slice A6 q6.length c6] 79 (0, 0)) := by
    rw [hb5.block _ (by omega)]
    exact heap_alloc_new wr _
   have hb5' : Below wr.heap.size wr w5 := (below_alloc (Below.refl _ _) _).trans (hb5.mono (by omega))
   have hr5' : (Kd.int .i64).R 3 (w5.setCell ⟨wr.heap.size, 5, none⟩ (.slice A5' q5.length c5')) w.heap.size (fun k => wr.heap.size ≤ k) (.slice A5' (q5.length + 64) c5') (q5 ++ marks (-100)) := Kd.R_set (Kd.R_lower (Kd.R_mono (Kd.R_bound hr5) (fun k hk => by have := hk.2.1; omega)) (by have := HB.out.size; omega)) kx (by decide) 5 _
   have y5 := (blk_cell kx 5).trans rfl
   have y6 := (blk_cell kx 6).trans rfl
   have z5 := blk_frozen kx 5
   have hb6 : Below wr.heap.size wr (w5.setCell ⟨wr.heap.size, 5, none⟩ (.slice A5' q5.length c5')) := hb5'.setCell (Nat.le_refl _) _
   have kx5 := blk_put kx 5 (.slice A5' q5.length c5') rfl
   have HR5 := Lib.hid hr5'
   have HB6 := Lib.hid hb6
   have KX5 := Lib.hid kx5
   clear hr5 hb5 hsz kx hb5' hr5' hb6 kx5 g0 g1 g2 g3 g4 g5 g6
   go_wp2_with fail
   refine (room_any (-300) (by omega) _ A6 c6 q6 (Kd.C_below H6.out HB6.out) l6 HS6.out).mono ?_
   rintro e w6 ⟨A6', c6', rfl, hr6, hb6⟩
   have kx := (hb6.block _ (blk_lt KX5.out)).trans KX5.out
   have hb7 : Below wr.heap.size wr w6 := HB6.out.trans (hb6.mono HB6.out.size)
   have hr6' : (Kd.int .i64).R 3 (w6.setCell ⟨wr.heap.size, 6, none⟩ (.slice A6' q6.length c6')) w.heap.size (fun k => wr.heap.size ≤ k) (.slice A6' (q6.length + 64) c6') (q6 ++ marks (-300)) := Kd.R_set (Kd.R_lower (Kd.R_mono (Kd.R_bound hr6) (fun k hk => Nat.le_trans HB6.out.size hk.2.1)) (Nat.le_trans HB.out.size HB6.out.size)) kx (by decide) 6 _
   have hr7 : (Kd.int .i64).R 3 (w6.setCell ⟨wr.heap.size, 6, none⟩ (.slice A6' q6.length c6')) w.heap.size (fun k => wr.heap.size ≤ k) (.slice A5' (q5.length + 64) c5') (q5 ++ marks (-100)) := Kd.R_set (Kd.R_below HR5.out hb6) kx (by decide) 6 _
   have y0 := (blk_cell kx 0).trans rfl
   have y1 := (blk_cell kx 1).trans rfl
   have y2 := (blk_cell kx 2).trans rfl
   have y3 := (blk_cell kx 3).trans rfl
   have y4 := (blk_cell kx 4).trans rfl
   have y5 := (blk_cell kx 5).trans rfl
   have y6 := (blk_cell kx 6).trans rfl
   have z6 := blk_frozen kx 6
   have hb8 : Below wr.heap.size wr (w6.setCell ⟨wr.heap.size, 6, none⟩ (.slice A6' q6.length c6')) := hb7.setCell (Nat.le_refl _) _
   have hR8 : Kd.S kSp 79 (w6.setCell ⟨wr.heap.size, 6, none⟩ (.slice A6' q6.length c6')) w.heap.size (fun k => True ∧ ¬ wr.heap.size ≤ k) (.slice A1 j c1) ((xs.take j).map .inl) :=
    Kd.S_mono (Kd.S_below (Kd.S_bound HR.out) hb8) (fun k hk => ⟨trivial, by have := hk.2.2.1; omega⟩)
   have HLT := Lib.hid (show ∀ k, wr.heap.size ≤ k → True ∧ some k ≠ (Value.slice A1 j c1).ownBlock from fun k hk => ⟨trivial, fun e => by have := Kd.S_lt HR.out k e.symm; omega⟩)
   have k1 := (hb8.block _ (blk_lt K1.out)).trans K1.out
   have k2 := (hb8.block _ (blk_lt K2.out)).trans K2.out
   have hM : kSp.M (w6.setCell ⟨wr.heap.size, 6, none⟩ (.slice A6' q6.length c6')) w.heap.size (fun k => wr.heap.size ≤ k) (.inl ⟨q0, q1, q2, q3, q4, q5, q6⟩) [.int .i64 q0, .int .i64 q1, .int .i64 q2, .int .i64 q3, .int .i64 q4, .slice A5' q5.length c5', .slice A6' q6.length c6'] :=
    kRI_mkM (w6.setCell ⟨wr.heap.size, 6, none⟩ (.slice A6' q6.length c6')) w.heap.size (fun k => wr.heap.size ≤ k) ⟨q0, q1, q2, q3, q4, q5, q6⟩ hr7 hr6'
   have n1 := Kd.S_ne hR8 k1 (by decide)
   have n2 := Kd.S_ne hR8 k2 (by decide)
   have HR8 := Lib.hid hR8
   have HB8 := Lib.hid hb8
   have HM := Lib.hid hM
   have K1' := Lib.hid k1
   have K2' := Lib.hid k2
   have N1 := Lib.hid n1
   have N2 := Lib.hid n2
   clear hr6 hb6 kx hb7 hr6' hr7 hb8 hR8 hM k1 k2 n1 n2 HR K1 K2 HR5 HB6 KX5
   go_wp2_with (first | (at_builtin; refine Kd.S_append kSp (w0 := w) (W := w6.setCell ⟨wr.heap.size, 6, none⟩ (.slice A6' q6.length c6')) w.heap.size rfl (.tmp 27) (.tmp 29) 64 79 _ 88 rfl Tryz.underlying64 info29s rfl (by decide) (by decide) (.slice A1 j c1) ((xs.take j).map .inl) (.inl ⟨q0, q1, q2, q3, q4, q5, q6⟩) _ (fun _ => True) (fun k => wr.heap.size ≤ k) rfl (by rw [show (w6.setCell ⟨wr.heap.size, 6, none⟩ (.slice A6' q6.length c6')).heap.size = w6.heap.size by simp]; rfl) HM.out HLT.out (fun _ _ => trivial) HR8.out (HB.out.trans (HB8.out.mono HB.out.size)) (Nat.le_trans HB.out.size HB8.out.size) (by simp; omega) ?_; intro u1 w7 hr9 hb9 hg9 hat9; obtain ⟨A2, c2, rfl⟩ := Kd.S_slice hr9; have k1 := (hg9.block _ (blk_lt K1'.out) N1.out).trans K1'.out; have k2 := (hg9.block _ (blk_lt K2'.out) N2.out).trans K2'.out; have HR9 := Lib.hid hr9; have HB9 := Lib.hid hb9; have K1 := Lib.hid k1; have K2 := Lib.hid k2; clear hr9 hb9 hg9 hat9 k1 k2))
   go_roundw
   case rel =>
    have hl : ((xs.take j).map Sum.inl ++ [(.inl ⟨q0, q1, q2, q3, q4, q5, q6⟩ : S79 ⊕ S79)]) = (xs.take (j + 1)).map .inl := by
     rw [List.take_add_one, List.getElem?_eq_getElem hlt, HX.out, List.map_append]
     rfl
    have hr := HR9.out
    rw [hl] at hr
    refine ⟨j + 1, A2, c2, by omega, by simp <;> omega, by go_num, ?_, K1.out, K2.out, HB9.out⟩
    rwa [show ((xs.take (j + 1)).map (Sum.inl (β := S79))).length = j + 1 by simp; omega] at hr
   case measure => simp [intOf]; omega
  ·obtain rfl : j = xs.length := by omega
   obtain ⟨wo, rfl⟩ : ∃ wo : World, wo = wr := ⟨_, rfl⟩
   go_wp2_with fail
   go_loopw [3, 6] (fun v i wr => ∃ (m : Nat) (A2 : Option Addr) (c2 : Nat), m ≤ 64 ∧ v = .slice A2 (xs.length + m) c2 ∧ i = .int .i64 m ∧ Kd.S kSp 79 wr w.heap.size (fun _ => True) (.slice A2 (xs.length + m) c2) (spare xs m) ∧
    wr.heap[w.heap.size]? = some (.cells #[.int .i64 x0, .int .i64 x1, .int .i64 x2, .slice A xs.length c] 66 (0, 0)) ∧ wr.heap[w.heap.size + 1]? = some (.cells #[.int .i64 0, .int .i64 0, .int .i64 0, .slice none 0 0] 66 (0, 0)) ∧ Below w.heap.size w wr) (fun _ i _ => 64 - (intOf i).toNat)
   case atStart => exact ⟨0, A1, c1, by omega, rfl, rfl, by rw [spare_zero]; have := HR.out; rwa [List.take_length] at this, K1.out, K2.out, HB.out⟩
   case round =>
    clear HR HB K1 K2 f3
    obtain ⟨m, A2, c2, hm2, rfl, rfl, hR, k1, k2, hB⟩ := hrel
    have n1 := Kd.S_ne hR k1 (by decide)
    have n2 := Kd.S_ne hR k2 (by decide)
    have HR := Lib.hid hR
    have HB := Lib.hid hB
    have K1 := Lib.hid k1
    have K2 := Lib.hid k2
    have N1 := Lib.hid n1
    have N2 := Lib.hid n2
    clear hR hB k1 k2 n1 n2
    by_cases hlt2 : m < 64
    ·go_wp2_with (first | (at_builtin; refine Kd.S_append kSp (w0 := w) (W := wr) w.heap.size rfl (.tmp 35) (.tmp 39) 64 79 _ 88 rfl Tryz.underlying64 info29s rfl (by decide) (by decide) (.slice A2 (xs.length + m) c2) (spare xs m) (.inr ⟨-75 - (m : Int), 0, 0, 0, 0, [], []⟩) _ (fun _ => True) (fun _ => False) rfl rfl (k79_mkM wr w.heap.size (fun _ => False) ⟨-75 - (m : Int), 0, 0, 0, 0, [], []⟩ (Kd.R_nil _ _ _ _ _) (Kd.R_nil _ _ _ _ _)) (fun _ h => h.elim) (fun _ _ => trivial) (Kd.S_mono HR.out (fun k hk => ⟨hk, fun h => h.elim⟩)) HB.out HB.out.size (by rw [spare_length]; omega) ?_; intro u1 w7 hr9 hb9 hg9 hat9; rw [spare_step] at hr9; obtain ⟨A3, c3, rfl⟩ := Kd.S_slice hr9; have k1 := (hg9.block _ (blk_lt K1.out) N1.out).trans K1.out; have k2 := (hg9.block _ (blk_lt K2.out) N2.out).trans K2.out; have HR9 := Lib.hid hr9; have HB9 := Lib.hid hb9; have K1' := Lib.hid k1; have K2' := Lib.hid k2; clear hr9 hb9 hg9 hat9 k1 k2))
     go_roundw
     case rel =>
      have hr := HR9.out
      rw [spare_length] at hr
      exact ⟨m + 1, A3, c3, by omega, by rw [spare_length], by go_num, hr, K1'.out, K2'.out, HB9.out⟩
     case measure => simp [intOf]; omega
    ·obtain rfl : m = 64 := by omega
     have hcap := (Kd.S_reads' HR.out).2.1
     have e0 := (blk_cell K1.out 0).trans rfl
     have e1 := (blk_cell K1.out 1).trans rfl
     have e2 := (blk_cell K1.out 2).trans rfl
     have e3 := (blk_cell K1.out 3).trans rfl
     have ez := blk_frozen K1.out 3
     have d0 := (blk_cell K2.out 0).trans rfl
     have d1 := (blk_cell K2.out 1).trans rfl
     have d2 := (blk_cell K2.out 2).trans rfl
     have d3 := (blk_cell K2.out 3).trans rfl
     have dz0 := blk_frozen K2.out 0
     have dz1 := blk_frozen K2.out 1
     have dz2 := blk_frozen K2.out 2
     have dz3 := blk_frozen K2.out 3
     have kk0 := blk_put ((Below.heap_setCell wr ⟨w.heap.size, 3, none⟩ (.slice A2 xs.length c2) (w.heap.size + 1) (by simp)).trans K2.out) 0 (.int .i64 x0) rfl
     have kk1 := blk_put kk0 1 (.int .i64 x1) rfl
     have kk2 := blk_put kk1 2 (.int .i64 x2) rfl
     have kk3 := blk_put kk2 3 (.slice A2 xs.length c2) rfl
     have hr1 := Kd.S_set HR.out K1.out (by decide) 3 (.slice A2 xs.length c2)
     have hr2 := Kd.S_set hr1 ((Below.heap_setCell wr ⟨w.heap.size, 3, none⟩ (.slice A2 xs.length c2) (w.heap.size + 1) (by simp)).trans K2.out) (by decide) 0 (.int .i64 x0)
     have hr3 := Kd.S_set hr2 kk0 (by decide) 1 (.int .i64 x1)
     have hr4 := Kd.S_set hr3 kk1 (by decide) 2 (.int .i64 x2)
     have hr5 := Kd.S_set hr4 kk2 (by decide) 3 (.slice A2 xs.length c2)
     have HR5 := Lib.hid hr5
     have KK3 := Lib.hid kk3
     clear kk0 kk1 kk2 kk3 hr1 hr2 hr3 hr4 hr5
     go_wp2_with fail
     refine bodyPost_ret (results_cell_row rfl _ _ (w.heap.size + 1) 66 #[.int .i64 x0, .int .i64 x1, .int .i64 x2, .slice A2 xs.length c2] (0, 0) _ rfl KK3.out Tryz.underlying66 rfl (by kernel_rfl)) rfl ?_
     refine ⟨A2, c2, rfl, HR5.out, ?_⟩
     exact below_set (below_set (below_set (below_set (below_set HB.out (Nat.le_refl _)) (by omega)) (by omega)) (by omega)) (by omega)
set_option maxRecDepth 100000 in
set_option maxHeartbeats 3200000 in
theorem eqInstr_yes (x : Ins) (A5 : Option Addr) (a5 : Nat) (A6 : Option Addr) (a6 : Nat) (B5 : Option Addr) (b5 : Nat) (B6 : Option Addr) (b6 : Nat) (w : World) (h5 : (Kd.int .i64).C w A5 x.f5.length x.f5) (h6 : (Kd.int .i64).C w A6 x.f6.length x.f6) (g5 : (Kd.int .i64).C w B5 x.f5.length x.f5) (g6 : (Kd.int .i64).C w B6 x.f6.length x.f6) (hs : SmallI x) :
  Calls Tryz.prog 168 #[.agg #[.int .i64 x.f0, .int .i64 x.f1, .int .i64 x.f2, .int .i64 x.f3, .int .i64 x.f4, .slice A5 x.f5.length a5, .slice A6 x.f6.length a6], .agg #[.int .i64 x.f0, .int .i64 x.f1, .int .i64 x.f2, .int .i64 x.f3, .int .i64 x.f4, .slice B5 x.f5.length b5, .slice B6 x.f6.length b6]] w
   fun e w' => e = .returned (.bool true) ∧ Below w.heap.size w w' := by
 have HE1 := Lib.hid (fun W (hb : Below w.heap.size w W) => eqInts_yes A5 a5 B5 b5 x.f5 W (Kd.C_below h5 hb) (Kd.C_below g5 hb) (by have := hs.1; omega))
 have HE2 := Lib.hid (fun W (hb : Below w.heap.size w W) => eqInts_yes A6 a6 B6 b6 x.f6 W (Kd.C_below h6 hb) (Kd.C_below g6 hb) (by have := hs.2; omega))
 obtain ⟨x0, x1, x2, x3, x4, x5, x6⟩ := x
 dsimp only at HE1 HE2 ⊢
 have hb2 := two_allocs w (.cells #[.int .i64 x0, .int .i64 x1, .int .i64 x2, .int .i64 x3, .int .i64 x4, .slice A5 x5.length a5, .slice A6 x6.length a6] 79) (.cells #[.int .i64 x0, .int .i64 x1, .int .i64 x2, .int .i64 x3, .int .i64 x4, .slice B5 x5.length b5, .slice B6 x6.length b6] 79)
 have t0 : (x0 == x0) = true := beq_self_eq_true x0
 have t1 : (x1 == x1) = true := beq_self_eq_true x1
 have t2 : (x2 == x2) = true := beq_self_eq_true x2
 have t3 : (x3 == x3) = true := beq_self_eq_true x3
 have t4 : (x4 == x4) = true := beq_self_eq_true x4
 clear h5 h6 g5 g6
 go_enter Tryz.func168, Tryz.ntmps168
 go_upto_region 1 with (fail)
 have g1 := alloc_first w #[.int .i64 x0, .int .i64 x1, .int .i64 x2, .int .i64 x3, .int .i64 x4, .slice A5 x5.length a5, .slice A6 x6.length a6] 79 (.cells #[.int .i64 x0, .int .i64 x1, .int .i64 x2, .int .i64 x3, .int .i64 x4, .slice B5 x5.length b5, .slice B6 x6.length b6] 79)
 have g2 := alloc_second w (.cells #[.int .i64 x0, .int .i64 x1, .int .i64 x2, .int .i64 x3, .int .i64 x4, .slice A5 x5.length a5, .slice A6 x6.length a6] 79) #[.int .i64 x0, .int .i64 x1, .int .i64 x2, .int .i64 x3, .int .i64 x4, .slice B5 x5.length b5, .slice B6 x6.length b6] 79
 obtain ⟨N, hN⟩ : ∃ N, w.heap.size = N := ⟨_, rfl⟩
 have HB2 := Lib.hid hb2
 have HN := Lib.hid hN
 rw [hN] at g1 g2 ⊢
 clear hN hb2
 generalize World.alloc _ _ = W2 at HB2 g1 g2 ⊢
 have c0 := blk_cell g1 0
 have c1 := blk_cell g1 1
 have c2 := blk_cell g1 2
 have c3 := blk_cell g1 3
 have c4 := blk_cell g1 4
 have c5 := blk_cell g1 5
 have c6 := blk_cell g1 6
 have d0 := blk_cell g2 0
 have d1 := blk_cell g2 1
 have d2 := blk_cell g2 2
 have d3 := blk_cell g2 3
 have d4 := blk_cell g2 4
 have d5 := blk_cell g2 5
 have d6 := blk_cell g2 6
 simp only [List.getElem?_toArray, List.getElem?_cons_succ, List.getElem?_cons_zero] at c0 c1 c2 c3 c4 c5 c6 d0 d1 d2 d3 d4 d5 d6
 clear g1 g2
 go_wp2_with fail
 refine (HE1.out W2 HB2.out).mono ?_
 rintro e w3 ⟨rfl, n3, rfl⟩
 have y1 : (W2.drewN n3).cell? _ = _ := c6
 have z1 : (W2.drewN n3).cell? _ = _ := d6
 have HB3 := Lib.hid (pw_below_drewN HB2.out n3)
 clear c0 c1 c2 c3 c4 c5 c6 d0 d1 d2 d3 d4 d5 d6 HE1 HB2 t0 t1 t2 t3 t4
 generalize W2.drewN n3 = w4 at y1 z1 HB3 ⊢
 go_wp2_with fail
 refine (HE2.out w4 HB3.out).mono ?_
 rintro e w5 ⟨rfl, n5, rfl⟩
 have HB5 := Lib.hid (pw_below_drewN HB3.out n5)
 clear y1 z1 HE2 HB3
 generalize w4.drewN n5 = w6 at HB5 ⊢
 go_wp2_with fail
 go_ret
 exact ⟨rfl, HN.out ▸ HB5.out⟩
set_option maxRecDepth 100000 in
set_option maxHeartbeats 3200000 in
theorem eqCode_yes (A : Option Addr) (a : Nat) (B : Option Addr) (b : Nat) (xs : List Ins) (w : World) (hA : k79.C w A xs.length xs) (hB : k79.C w B xs.length xs) (hl : xs.length ≤ 2147483647) (hs : ∀ x ∈ xs, SmallI x) :
  Calls Tryz.prog 138 #[.slice A xs.length a, .slice B xs.length b] w fun e w' => e = .returned (.bool true) ∧ Below w.heap.size w w' := by
 have HA := Lib.hid hA
 have HB := Lib.hid hB
 have HS := Lib.hid hs
 clear hA hB hs
 go_enter Tryz.func138, Tryz.ntmps138
 go_wp2_with fail
 go_loopw [5] (fun i wr => ∃ j : Nat, j ≤ xs.length ∧ i = .int .i64 j ∧ Below w.heap.size w wr) (fun i _ => xs.length - (intOf i).toNat)
 case atStart => exact ⟨0, by omega, rfl, Below.refl _ _⟩
 case round =>
  obtain ⟨j, hj, rfl, hb⟩ := hrel
  have HBW := Lib.hid hb
  clear hb
  by_cases hlt : j < xs.length
  ·obtain ⟨ad, A5, c5, A6, c6, hA, x0, x1, x2, x3, x4, x5, x6, _, h5, _, h6⟩ := at_T79 (Kd.C_below HA.out HBW.out) (j : Int) (by omega) (by omega)
   obtain ⟨bd, B5, d5, B6, d6, hB, y0, y1, y2, y3, y4, y5, y6, _, g5, _, g6⟩ := at_T79 (Kd.C_below HB.out HBW.out) (j : Int) (by omega) (by omega)
   have hsm := HS.out _ (getD_memA xs j zI hlt)
   rw [← rdIns] at hsm
   rw [Int.toNat_natCast] at x0 x1 x2 x3 x4 x5 x6 y0 y1 y2 y3 y4 y5 y6
   generalize rd_T79 xs (j : Int) = x at *
   have HE := Lib.hid (eqInstr_yes x A5 c5 A6 c6 B5 d5 B6 d6 wr.drew h5 h6 g5 g6 hsm)
   subst hA
   subst hB
   clear h5 h6 g5 g6 hsm
   go_upto_region 6 with (fail)
   go_still_tail 8, (by kernel_rfl)
   change wpList _ _ _ _ _ wr.drew
   go_wp2_with fail
   refine HE.out.mono ?_
   rintro e w3 ⟨rfl, hb3⟩
   have HB3 := Lib.hid (HBW.out.trans ((Below.trans (below_drew (Below.refl _ wr)) hb3 : Below wr.heap.size wr w3).mono HBW.out.size))
   clear x0 x1 x2 x3 x4 x5 x6 y0 y1 y2 y3 y4 y5 y6 hb3
   go_wp2_with fail
   go_roundw
   case rel => exact ⟨j + 1, by omega, by go_num, HB3.out⟩
   case measure => simp [intOf]; omega
  ·obtain rfl : j = xs.length := by omega
   go_wp2_with fail
   go_ret
   exact ⟨rfl, HBW.out⟩
set_option maxRecDepth 100000 in
set_option maxHeartbeats 3200000 in
theorem eqFunc_yes (x0 x1 x2 : Int) (A : Option Addr) (a : Nat) (B : Option Addr) (b : Nat) (xs : List Ins) (w : World) (hA : k79.C w A xs.length xs) (hB : k79.C w B xs.length xs) (hl : xs.length ≤ 2147483647) (hs : ∀ x ∈ xs, SmallI x) :
  Calls Tryz.prog 104 #[.agg #[.int .i64 x0, .int .i64 x1, .int .i64 x2, .slice A xs.length a], .agg #[.int .i64 x0, .int .i64 x1, .int .i64 x2, .slice B xs.length b]] w fun e w' => e = .returned (.bool true) ∧ Below w.heap.size w w' := by
 have HE1 := Lib.hid (fun W (hb : Below w.heap.size w W) => eqCode_yes A a B b xs W (Kd.C_below hA hb) (Kd.C_below hB hb) hl hs)
 have hb2 := two_allocs w (.cells #[.int .i64 x0, .int .i64 x1, .int .i64 x2, .slice A xs.length a] 66) (.cells #[.int .i64 x0, .int .i64 x1, .int .i64 x2, .slice B xs.length b] 66)
 have t0 : (x0 == x0) = true := beq_self_eq_true x0
 have t1 : (x1 == x1) = true := beq_self_eq_true x1
 have t2 : (x2 == x2) = true := beq_self_eq_true x2
 clear hA hB hs
 go_enter Tryz.func104, Tryz.ntmps104
 go_upto_region 1 with (fail)
 have g1 := alloc_first w #[.int .i64 x0, .int .i64 x1, .int .i64 x2, .slice A xs.length a] 66 (.cells #[.int .i64 x0, .int .i64 x1, .int .i64 x2, .slice B xs.length b] 66)
 have g2 := alloc_second w (.cells #[.int .i64 x0, .int .i64 x1, .int .i64 x2, .slice A xs.length a] 66) #[.int .i64 x0, .int .i64 x1, .int .i64 x2, .slice B xs.length b] 66
 obtain ⟨N, hN⟩ : ∃ N, w.heap.size = N := ⟨_, rfl⟩
 have HB2 := Lib.hid hb2
 have HN := Lib.hid hN
 rw [hN] at g1 g2 ⊢
 clear hN hb2
 generalize World.alloc _ _ = W2 at HB2 g1 g2 ⊢
 have c0 := blk_cell g1 0
 have c1 := blk_cell g1 1
 have c2 := blk_cell g1 2
 have c3 := blk_cell g1 3
 have d0 := blk_cell g2 0
 have d1 := blk_cell g2 1
 have d2 := blk_cell g2 2
 have d3 := blk_cell g2 3
 simp only [List.getElem?_toArray, List.getElem?_cons_succ, List.getElem?_cons_zero] at c0 c1 c2 c3 d0 d1 d2 d3
 have hsz := blk_lt g2
 clear g1 g2
 go_wp2_with fail
 refine (HE1.out W2 HB2.out).mono ?_
 rintro e w3 ⟨rfl, hb3⟩
 have HB3 := Lib.hid (HB2.out.trans (hb3.mono HB2.out.size))
 clear hb3 c0 c1 c2 c3 d0 d1 d2 d3 HE1 HB2
 go_wp2_with fail
 go_ret
 exact ⟨rfl, HB3.out⟩
theorem spare_at (xs : List S79) (m j : Nat) (h : j < xs.length) : (spare xs m)[j]? = some (.inl xs[j]) := by
 rw [spare, List.getElem?_append_left (by simpa using h), List.getElem?_map, List.getElem?_eq_getElem h]
 rfl
theorem spare_mark (xs : List S79) (m j : Nat) (h : j < m) : (spare xs m)[xs.length + j]? = some (.inr ⟨-75 - (j : Int), 0, 0, 0, 0, [], []⟩) := by
 rw [spare, List.getElem?_append_right (by simp)]
 simp [h]
theorem spare_plain {w : World} {A : Option Addr} {xs : List S79} (h : kSp.C w A (xs.length + 64) (spare xs 64)) : k79.C w A xs.length xs := by
 have hl := h.2.1
 refine ⟨rfl, by omega, fun hn => ?_⟩
 obtain ⟨ad, e, hc⟩ := h.2.2 (by omega)
 refine ⟨ad, e, fun j p hj => ?_⟩
 obtain ⟨hjl, hjp⟩ := List.getElem?_eq_some_iff.1 hj
 obtain ⟨c, h1, h2, h3⟩ := hc j _ (spare_at xs 64 j hjl)
 refine ⟨c, h1, ?_, h3⟩
 have h4 : kRI.K w xs[j] c := h2
 rw [hjp] at h4
 exact kRI_plain h4
theorem spare_cell {w : World} {ad : Addr} {xs : List S79} (h : kSp.C w (some ad) (xs.length + 64) (spare xs 64)) (j : Nat) (hj : j < 64) : w.cell? (ad.add ((xs.length + j) * 7)) = some (.int .i64 (-75 - (j : Int))) := by
 obtain ⟨ad', e, hc⟩ := h.2.2 (by omega)
 cases e
 obtain ⟨c, h1, h2, h3⟩ := hc _ _ (spare_mark xs 64 j hj)
 have h4 : k79.K w ⟨-75 - (j : Int), 0, 0, 0, 0, [], []⟩ c := h2
 obtain ⟨A5, c5, A6, c6, rfl, _⟩ := k79_open h4
 have h5 := h3 0 _ rfl
 exact h5
theorem spare_lists {w : World} {ad : Addr} {xs : List S79} (h : kSp.C w (some ad) (xs.length + 64) (spare xs 64)) (j : Nat) (hj : j < xs.length) :
  ∃ A5 c5 A6 c6, w.cell? ⟨(ad.add (j * 7)).block, (ad.add (j * 7)).off + 5, none⟩ = some (.slice A5 xs[j].f5.length c5) ∧ w.cell? ⟨(ad.add (j * 7)).block, (ad.add (j * 7)).off + 6, none⟩ = some (.slice A6 xs[j].f6.length c6) ∧
   xs[j].f5.length + 64 ≤ c5 ∧ (Kd.int .i64).C w A5 (xs[j].f5.length + 64) (xs[j].f5 ++ marks (-100)) ∧ xs[j].f6.length + 64 ≤ c6 ∧ (Kd.int .i64).C w A6 (xs[j].f6.length + 64) (xs[j].f6 ++ marks (-300)) := by
 obtain ⟨ad', e, hc⟩ := h.2.2 (by omega)
 cases e
 obtain ⟨c, h1, h2, h3⟩ := hc _ _ (spare_at xs 64 j hj)
 have h4 : kRI.K w xs[j] c := h2
 obtain ⟨A5, c5, A6, c6, rfl, q1, q2, q3, q4⟩ := kRI_open h4
 refine ⟨A5, c5, A6, c6, ?_, ?_, q1, q2, q3, q4⟩
 ·rw [← add_field _ _ 5 (by omega)]; exact h3 5 _ rfl
 ·rw [← add_field _ _ 6 (by omega)]; exact h3 6 _ rfl
theorem two_boxes {w w1 : World} (o1 o2 : Obj) (hb : Below ((w.alloc o1).alloc o2).heap.size ((w.alloc o1).alloc o2) w1) :
  w1.heap[w.heap.size]? = some o1 ∧ w1.heap[w.heap.size + 1]? = some o2 ∧ Below w.heap.size w w1 := by
 have h1 : (w.alloc o1).heap.size = w.heap.size + 1 := by simp
 have h2 : ((w.alloc o1).alloc o2).heap.size = w.heap.size + 2 := by simp
 refine ⟨(hb.block _ (by omega)).trans (blk_alloc (heap_alloc_new w o1) _), (hb.block _ (by omega)).trans ?_, (below_alloc (below_alloc (Below.refl _ _) _) _).trans (hb.mono (by omega))⟩
 have := heap_alloc_new (w.alloc o1) o2
 rwa [h1] at this
set_option maxRecDepth 100000 in
set_option maxHeartbeats 1600000 in
theorem staysFunc_any (x0 x1 x2 : Int) (w : World) (A : Option Addr) (c : Nat) (A' : Option Addr) (c' : Nat) (xs : List S79) (hC : kSp.C w A (xs.length + 64) (spare xs 64)) (hc : xs.length + 64 ≤ c) (hC' : k79.C w A' xs.length xs) (hc' : xs.length ≤ c') (hm : xs.length ≤ 2147483647) (hs : ∀ x ∈ xs, SmallI x) :
  Calls Tryz.prog 58 #[.agg #[.int .i64 x0, .int .i64 x1, .int .i64 x2, .slice A xs.length c], .agg #[.int .i64 x0, .int .i64 x1, .int .i64 x2, .slice A' xs.length c']] w fun e w' => e = .returned (.bool true) ∧ Below w.heap.size w w' := by
 obtain ⟨ad, hA, _⟩ := hC.2.2 (by omega)
 subst hA
 have HC := Lib.hid hC
 have HC' := Lib.hid hC'
 have HS := Lib.hid hs
 clear hC hC' hs
 go_enter Tryz.func58, Tryz.ntmps58
 go_wp2_with (first | (go_at_call 104; refine (eqFunc_yes x0 x1 x2 (some ad) c A' c' xs _ (Kd.C_alloc (Kd.C_alloc (spare_plain HC.out) _) _) (Kd.C_alloc (Kd.C_alloc HC'.out _) _) hm HS.out).mono ?_; rintro e w1 ⟨rfl, hb⟩; obtain ⟨b1, b2, hb1⟩ := two_boxes _ _ hb; have f3 := (blk_cell b1 3).trans rfl; have g3 := (blk_cell b2 3).trans rfl; have HB := Lib.hid hb1; clear hb b1 b2 hb1))
 go_loopw [7] (fun i wr => ∃ j : Nat, j ≤ 64 ∧ i = .int .i64 j ∧ wr = w1) (fun i _ => 64 - (intOf i).toNat)
 case atStart => exact ⟨0, by omega, rfl, by trivial⟩
 case round =>
  obtain ⟨j, hj, rfl, rfl⟩ := hrel
  by_cases hlt : j < 64
  ·have hx := spare_cell (Kd.C_below HC.out HB.out) j hlt
   have p1 : (0 : Int) ≤ (xs.length : Int) + j := by omega
   go_wp2_with fail
   go_roundw
   case rel => exact ⟨j + 1, by omega, by go_num, by trivial⟩
   case measure => simp [intOf]; omega
  ·have hj2 : (64 : Int) ≤ (j : Int) := by omega
   obtain ⟨wo, rfl⟩ : ∃ wo : World, wo = wr := ⟨_, rfl⟩
   go_wp2_with fail
   go_loopw [8] (fun i wr => ∃ m : Nat, m ≤ xs.length ∧ i = .int .i64 m ∧ Below w.heap.size w wr) (fun i _ => xs.length - (intOf i).toNat)
   case atStart => exact ⟨0, by omega, rfl, HB.out⟩
   case round =>
    clear f3 g3
    obtain ⟨m, hm2, rfl, hB⟩ := hrel
    have HB2 := Lib.hid hB
    clear hB
    by_cases hlt2 : m < xs.length
    ·obtain ⟨A5, c5, A6, c6, g5, g6, l5, C5, l6, C6⟩ := spare_lists (Kd.C_below HC.out HB2.out) m hlt2
     have hsm := HS.out _ (List.getElem_mem hlt2)
     have H5 := Lib.hid C5
     have H6 := Lib.hid C6
     have S5 := Lib.hid hsm.1
     have S6 := Lib.hid hsm.2
     clear C5 C6 hsm
     generalize xs[m] = x at *
     have ha5 := kept_any (-100) (by omega) wr A5 c5 x.f5 H5.out l5 S5.out
     have ha6 := kept_any (-300) (by omega) wr A6 c6 x.f6 H6.out l6 S6.out
     have HA5 := Lib.hid ha5
     have HA6 := Lib.hid ha6
     clear ha5 ha6 H5 H6 S5 S6
     go_wp2_with fail
     refine HA5.out.mono ?_
     rintro e w2 ⟨rfl, rfl⟩
     clear HA5 g5
     go_wp2_with fail
     refine HA6.out.mono ?_
     rintro e w3 ⟨rfl, rfl⟩
     clear HA6 g6
     go_wp2_with fail
     go_roundw
     case rel => exact ⟨m + 1, by omega, by go_num, HB2.out⟩
     case measure => simp [intOf]; omega
    ·obtain rfl : m = xs.length := by omega
     go_wp2_with fail
     go_ret
     exact ⟨rfl, HB2.out⟩
end Go.Proofs.YtcbcacbbnojdjaaGreatDoor
