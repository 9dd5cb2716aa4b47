/-
  Rows with marks behind them; the walk of room.
-/
import Derived.Test.YteohlbnmmlejnaaLoQ
import Derived.Test.YteohlbnmmlejnaaDqB
namespace Go.Proofs.Yteohlbnmmlejnaa.PSolveLowests
open Go.RowKit Go.Proofs.YteohlbnmmlejnaaW.PrintWords
set_option linter.unusedVariables false
set_option linter.unusedSimpArgs false

/-- The marks that stand behind a row. -/
def marks (t : Int) : List Int := (List.range 64).map fun i : Nat => t - (i : Int)
theorem marks_length (t : Int) : (marks t).length = 64 := by simp [marks]
theorem marks_at (t : Int) (i : Nat) (h : i < 64) : (marks t)[i]? = some (t - (i : Int)) := by simp [marks, h]
theorem marks_take (t : Int) (i : Nat) (h : i < 64) : (marks t).take i ++ [t - (i : Int)] = (marks t).take (i + 1) := by
  rw [List.take_add_one, marks_at t i h]
  rfl

theorem own_len (A : Option Addr) (n m c : Nat) : (Value.slice A n c).ownBlock = (Value.slice A m c).ownBlock := by cases A <;> rfl

theorem marks_cell {w : World} {A : Option Addr} {xs : List Int} {t : Int} (h : (Kd.int .i64).C w A (xs.length + 64) (xs ++ marks t)) (j : Nat) (hj : j < 64) :
    ∃ ad, A = some ad ∧ w.cell? (ad.add (xs.length + j)) = some (.int .i64 (t - (j : Int))) := by
  have hl : (xs ++ marks t).length = xs.length + 64 := by rw [List.length_append, marks_length]
  obtain ⟨ad, hA, hc⟩ := h.2.2 (by omega)
  have he : (xs ++ marks t)[xs.length + j]? = some (t - (j : Int)) := by
    rw [List.getElem?_append_right (by omega), show xs.length + j - xs.length = j by omega]
    exact marks_at t j hj
  obtain ⟨c, _, hk, hcell⟩ := hc (xs.length + j) _ he
  have hk' : c = [.int .i64 (t - (j : Int))] := hk
  have h1 := hcell 0 (.int .i64 (t - (j : Int))) (by rw [hk']; rfl)
  have hsz : (Kd.int .i64).sz = 1 := rfl
  rw [hsz, Nat.mul_one, Nat.add_zero] at h1
  exact ⟨ad, hA, h1⟩

/-- A row cut from a longer one: marks stand behind it. -/
def kRoom (t : Int) : Kd (List Int) where
  sz := 1
  E := [3]
  K := fun w xs cs => ∃ A c, cs = [.slice A xs.length c] ∧ xs.length + 64 ≤ c ∧ (Kd.int .i64).C w A (xs.length + 64) (xs ++ marks t)
  M := fun w base ok xs cs => ∃ A c, cs = [.slice A xs.length c] ∧ (Kd.int .i64).R 3 w base ok (.slice A (xs.length + 64) c) (xs ++ marks t)
  K_len := by
    rintro w x cs ⟨A, c, rfl, _⟩
    rfl
  K_one := by
    rintro w x cs ⟨A, c, rfl, _⟩ u hu
    rw [List.mem_singleton.1 hu]
    rfl
  K_below := by
    rintro w w1 x cs hb ⟨A, c, rfl, hl, hr⟩
    exact ⟨A, c, rfl, hl, Kd.C_below hr hb⟩
  K_of_M := by
    rintro w base ok x cs ⟨A, c, rfl, h⟩
    obtain ⟨h1, h2, h3⟩ := Kd.R_reads' h
    refine ⟨A, c, rfl, h2, ?_⟩
    rwa [show (x ++ marks t).length = x.length + 64 by rw [List.length_append, marks_length]] at h3
  M_mono := by
    rintro w base ok ok' x cs hok ⟨A, c, rfl, h⟩
    exact ⟨A, c, rfl, Kd.R_mono h hok⟩
  M_bound := by
    rintro w base ok x cs ⟨A, c, rfl, h⟩
    exact ⟨A, c, rfl, Kd.R_bound h⟩
  M_move := by
    rintro w w1 base ok x cs hm ⟨A, c, rfl, h⟩
    exact ⟨A, c, rfl, Kd.R_move h hm⟩
  M_lower := by
    rintro w base base' ok x cs hb ⟨A, c, rfl, h⟩
    exact ⟨A, c, rfl, Kd.R_lower h hb⟩

def roomPost (t : Int) (xs : List Int) (w : World) (e : Ending) (w' : World) : Prop :=
  ∃ A c, e = .returned (.slice A xs.length c) ∧ (Kd.int .i64).R 3 w' w.heap.size (fun _ => True) (.slice A (xs.length + 64) c) (xs ++ marks t) ∧ Below w.heap.size w w'

set_option maxRecDepth 100000 in
set_option maxHeartbeats 1600000 in
theorem room_any (t : Int) (ht : -1000 ≤ t ∧ t ≤ 0) (w : World) (A : Option Addr) (c : Nat) (xs : List Int) (hC : (Kd.int .i64).C w A xs.length xs) (hc : xs.length ≤ c) (hm : xs.length ≤ 2147483647) :
    Calls Try.prog 28 #[.slice A xs.length c, .int .i64 t] w (roomPost t xs w) := by
  obtain ⟨k, hk⟩ := (ev_copyInts xs hm).rounds
  have HC := Lib.hid hC
  have HK := Lib.hid hk
  clear hC hk
  go_enter Try.func28, Try.ntmps28
  go_wp2_with (first | (go_at_call 43; refine (fugueref00_CopyInts.calls k A c xs xs _ HC.out hc HK.out).mono ?_; rintro e w1 ⟨v0, rfl, hr, hb⟩; obtain ⟨A0, c0, rfl⟩ := Kd.R_slice hr; have HR := Lib.hid hr; have HB := Lib.hid hb; clear hr hb))
  go_loopw [5, 6] (fun v i wr => ∃ (j : Nat) (A1 : Option Addr) (c1 : Nat), j ≤ 64 ∧ v = .slice A1 (xs.length + j) c1 ∧ i = .int .i64 j ∧ (Kd.int .i64).R 3 wr w.heap.size (fun _ => True) (.slice A1 (xs.length + j) c1) (xs ++ (marks t).take j) ∧ Below w.heap.size w wr) (fun _ i _ => 64 - (intOf i).toNat)
  case atStart => exact ⟨0, A0, c0, by omega, rfl, rfl, by simp only [Nat.add_zero, List.take_zero, List.append_nil]; exact HR.out, HB.out⟩
  case round =>
    obtain ⟨j, A1, c1, hj, rfl, rfl, hR, hB⟩ := hrel
    have HR2 := Lib.hid hR
    have HB2 := Lib.hid hB
    clear hR hB HR HB
    by_cases hlt : j < 64
    · go_wp2_with (first | (at_builtin; refine Kd.R_append (Kd.int .i64) (w0 := w) (W := wr) w.heap.size rfl (.tmp 13) (.tmp 17) 27 3 (.int .i64 0) 8 rfl Try.underlying27 info3 rfl (by decide) (by decide) (.slice A1 (xs.length + j) c1) (xs ++ (marks t).take j) (t - (j : Int)) [.int .i64 (t - (j : Int))] (fun _ => True) (fun _ => False) rfl rfl rfl (fun _ h => h.elim) (fun _ _ => trivial) HR2.out HB2.out HB2.out.size (by simp [marks_length]; omega) ?_; intro u1 w4 hr4 hb4 hg4 hat4; obtain ⟨A2, c2, rfl⟩ := Kd.R_slice hr4; rw [List.append_assoc, marks_take t j hlt] at hr4; have HR4 := Lib.hid hr4; have HB4 := Lib.hid hb4; clear hr4 hb4 hg4 hat4))
      go_roundw
      case rel => exact ⟨j + 1, A2, c2, by omega, by simp [marks_length]; omega, by go_num, by have := HR4.out; rwa [show (xs ++ (marks t).take (j + 1)).length = xs.length + (j + 1) by simp [marks_length]; omega] at this, HB4.out⟩
      case measure => simp [intOf]; omega
    · obtain rfl : j = 64 := by omega
      have hcap := (Kd.R_reads' HR2.out).2.1
      go_wp2_with fail
      go_ret
      exact ⟨A1, c1, rfl, by simpa [List.take_of_length_le (show (marks t).length ≤ 64 by rw [marks_length]; omega)] using HR2.out, HB2.out⟩

set_option maxRecDepth 100000 in
set_option maxHeartbeats 1600000 in
theorem kept_any (t : Int) (ht : -1000 ≤ t ∧ t ≤ 0) (w : World) (A : Option Addr) (c : Nat) (xs : List Int) (hC : (Kd.int .i64).C w A (xs.length + 64) (xs ++ marks t)) (hc : xs.length + 64 ≤ c) (hm : xs.length ≤ 2147483647) :
    Calls Try.prog 32 #[.slice A xs.length c, .int .i64 t] w fun e w' => e = .returned (.bool true) ∧ w = w' := by
  have HC := Lib.hid hC
  clear hC
  go_enter Try.func32, Try.ntmps32
  go_wp2_with fail
  go_loopw [6] (fun i wr => ∃ j : Nat, j ≤ 64 ∧ i = .int .i64 j ∧ wr = w) (fun i _ => 64 - (intOf i).toNat)
  case atStart => exact ⟨0, by omega, rfl, by trivial⟩
  case round =>
    obtain ⟨j, hj, rfl, rfl⟩ := hrel
    by_cases hlt : j < 64
    · obtain ⟨ad, hA, hx⟩ := marks_cell HC.out j hlt
      subst hA
      have p1 : (0 : Int) ≤ (xs.length : Int) + j := by omega
      go_wp2_with fail
      go_roundw
      case rel => exact ⟨j + 1, by omega, by go_num, by trivial⟩
      case measure => simp [intOf]; omega
    · obtain rfl : j = 64 := by omega
      go_wp2_with fail
      go_ret
      exact ⟨rfl, rfl⟩
end Go.Proofs.Yteohlbnmmlejnaa.PSolveLowests
