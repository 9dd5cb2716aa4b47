/-
  The deque: New, Push, take, Pop, Steal, Len.
-/
import Derived.Test.YteohlbnmmlejnaaDqE
namespace Go.Proofs.Yteohlbnmmlejnaa
open Go.RowKit Go.MuLone

/-- A deque at block b, whose room is v, holds the tasks xs. -/
def Dq (w : World) (base b : Nat) (v : Value) (xs : List Int) : Prop := base ≤ b ∧ ∃ sm f gs, Rg w base b 0 sm 76 v f gs xs

theorem Rg.lock {w : World} {base b : Nat} {st sm : Int} {T : Nat} {v : Value} {f : Int} {gs xs : List Int} (h : Rg w base b st sm T v f gs xs) (st' : Int) : Rg (w.setCell ⟨b, 0, none⟩ (.int .i32 st')) base b st' sm T v f gs xs :=
  ⟨by have h2 := blk_set h.BK 0 (.int .i32 st'); simpa using h2, ((Fr.refl w (fun k => k = b)).setCell ⟨b, 0, none⟩ _ (fun _ => rfl)).own h.own (fun k hk he => h.ne (by rw [hk, he])), h.ne, h.f0, h.fl, h.len, h.cont, h.gl⟩

def pushedPost (w : World) (base b : Nat) (v : Value) (xs : List Int) (t : Int) (e : Ending) (w' : World) : Prop :=
  e = .returned (.tuple #[]) ∧ ∃ v', Dq w' base b v' (xs ++ [t]) ∧ Fr w w' (fun k => k = b ∨ some k = v.ownBlock) ∧ (v'.ownBlock = v.ownBlock ∨ ∃ g, v'.ownBlock = some g ∧ w.heap.size ≤ g)

set_option maxRecDepth 100000 in
set_option maxHeartbeats 1600000 in
theorem Push_any (base b : Nat) (v : Value) (xs : List Int) (t : Int) (w : World) (h : Dq w base b v xs) (hb : base ≤ w.heap.size) (hx : xs.length ≤ 17592186044414) :
    Calls Try.prog 23 #[.pointer (some ⟨b, 0, none⟩), .int .i64 t] w (pushedPost w base b v xs t) := by
  obtain ⟨hbb, sm, f, gs, h⟩ := h
  have h0 : w.cell? ⟨b, 0, none⟩ = some (.int .i32 0) := (blk_cell h.BK 0).trans rfl
  have z0 := blk_frozen h.BK 0
  have hp := push_any base b 1 sm 76 v f gs xs t _ (h.lock 1) (by simpa [World.setCell] using hb) hx
  have HP := Lib.hid hp
  clear hp h
  go_enter_defers Try.func23, Try.ntmps23
  go_wp2_with (first
    | (go_at_call 37; refine (lock_free muLib ⟨b, 0, none⟩ _ h0 z0).mono ?_; rintro e w' ⟨rfl, rfl⟩)
    | (go_at_call 40; refine (HP.out).mono ?_; rintro e w1 ⟨rfl, v', f', gs', hR, hfr, hv'⟩))
  have k0 : w1.cell? ⟨b, 0, none⟩ = some (.int .i32 1) := (blk_cell hR.BK 0).trans rfl
  have y0 := blk_frozen hR.BK 0
  refine leaves_cons (f := 38) (args := #[.pointer (some ⟨b, 0, none⟩)]) (by simp) (by simp [go_sem]) ?_
  refine (unlock_deferred muLib ⟨b, 0, none⟩ .returning _ k0 y0).mono ?_
  rintro e u' w2 ⟨rfl, rfl, rfl⟩
  refine ⟨_, results_none rfl _ _ _, rfl, v', ⟨hbb, sm, f', gs', hR.lock 0⟩, ?_, ?_⟩
  · have h7 : Fr w w1 (fun k => k = b ∨ some k = v.ownBlock) := ((Fr.refl w _).setCell ⟨b, 0, none⟩ _ (fun _ => .inl rfl)).trans hfr (fun _ _ h => h)
    exact h7.setCell ⟨b, 0, none⟩ _ (fun _ => .inl rfl)
  · simpa [World.setCell] using hv'

def tookPost (w : World) (base b : Nat) (v : Value) (xs : List Int) (near : Bool) (e : Ending) (w' : World) : Prop :=
  e = .returned (.tuple #[.int .i64 (takeVal near xs), .bool (!xs.isEmpty)]) ∧ Dq w' base b v (takeRest near xs) ∧ Fr w w' (fun k => k = b)

set_option maxRecDepth 100000 in
set_option maxHeartbeats 1600000 in
theorem take_deq (base b : Nat) (v : Value) (xs : List Int) (near : Bool) (w : World) (h : Dq w base b v xs) :
    Calls Try.prog 39 #[.pointer (some ⟨b, 0, none⟩), .bool near] w (tookPost w base b v xs near) := by
  obtain ⟨hbb, sm, f, gs, h⟩ := h
  have h0 : w.cell? ⟨b, 0, none⟩ = some (.int .i32 0) := (blk_cell h.BK 0).trans rfl
  have z0 := blk_frozen h.BK 0
  have hp : Calls Try.prog 47 #[.pointer (some ⟨b, 2, none⟩), .bool near] (w.setCell ⟨b, 0, none⟩ (.int .i32 1)) (takePost (w.setCell ⟨b, 0, none⟩ (.int .i32 1)) base b 1 sm 76 v gs xs near) := by
    by_cases hx : xs = []
    · subst hx; exact take_none base b 1 sm 76 v f gs near _ (h.lock 1)
    · exact take_any base b 1 sm 76 v f gs xs near _ (h.lock 1) hx
  have HP := Lib.hid hp
  clear hp h
  go_enter_defers Try.func39, Try.ntmps39
  go_wp2_with (first
    | (go_at_call 37; refine (lock_free muLib ⟨b, 0, none⟩ _ h0 z0).mono ?_; rintro e w' ⟨rfl, rfl⟩)
    | (go_at_call 47; refine (HP.out).mono ?_; rintro e w1 ⟨rfl, f', hR, hfr⟩))
  have k0 : w1.cell? ⟨b, 0, none⟩ = some (.int .i32 1) := (blk_cell hR.BK 0).trans rfl
  have y0 := blk_frozen hR.BK 0
  refine leaves_cons (f := 38) (args := #[.pointer (some ⟨b, 0, none⟩)]) (by simp) (by simp [go_sem]) ?_
  refine (unlock_deferred muLib ⟨b, 0, none⟩ .returning _ k0 y0).mono ?_
  rintro e u' w2 ⟨rfl, rfl, rfl⟩
  refine ⟨_, results_tmp2 rfl _ _ _, rfl, ⟨hbb, sm, f', gs, hR.lock 0⟩, ?_⟩
  have h7 : Fr w w1 (fun k => k = b) := ((Fr.refl w (fun k => k = b)).setCell ⟨b, 0, none⟩ _ (fun _ => rfl)).trans hfr (fun _ _ h => h)
  exact h7.setCell ⟨b, 0, none⟩ _ (fun _ => rfl)

theorem Pop_any (base b : Nat) (v : Value) (xs : List Int) (w : World) (h : Dq w base b v xs) :
    Calls Try.prog 21 #[.pointer (some ⟨b, 0, none⟩)] w (tookPost w base b v xs true) := by
  have HP := Lib.hid (take_deq base b v xs true w h)
  clear h
  go_enter Try.func21, Try.ntmps21
  go_wp2_with (first | (go_at_call 39; refine (HP.out).mono ?_; rintro e w1 ⟨rfl, hR, hfr⟩))
  go_ret2
  exact ⟨rfl, hR, hfr⟩

theorem Steal_any (base b : Nat) (v : Value) (xs : List Int) (w : World) (h : Dq w base b v xs) :
    Calls Try.prog 22 #[.pointer (some ⟨b, 0, none⟩)] w (tookPost w base b v xs false) := by
  have HP := Lib.hid (take_deq base b v xs false w h)
  clear h
  go_enter Try.func22, Try.ntmps22
  go_wp2_with (first | (go_at_call 39; refine (HP.out).mono ?_; rintro e w1 ⟨rfl, hR, hfr⟩))
  go_ret2
  exact ⟨rfl, hR, hfr⟩

def lenPost (w : World) (base b : Nat) (v : Value) (xs : List Int) (e : Ending) (w' : World) : Prop :=
  e = .returned (.int .i64 xs.length) ∧ Dq w' base b v xs ∧ Fr w w' (fun k => k = b)

set_option maxRecDepth 100000 in
set_option maxHeartbeats 1600000 in
theorem Len_any (base b : Nat) (v : Value) (xs : List Int) (w : World) (h : Dq w base b v xs) :
    Calls Try.prog 20 #[.pointer (some ⟨b, 0, none⟩)] w (lenPost w base b v xs) := by
  obtain ⟨hbb, sm, f, gs, h⟩ := h
  have h0 : w.cell? ⟨b, 0, none⟩ = some (.int .i32 0) := (blk_cell h.BK 0).trans rfl
  have h4 : w.cell? ⟨b, 4, none⟩ = some (.int .i64 xs.length) := (blk_cell h.BK 4).trans rfl
  have z0 := blk_frozen h.BK 0
  have HR := Lib.hid (h.lock 1)
  clear h
  go_enter_defers Try.func20, Try.ntmps20
  go_wp2_with (first
    | (go_at_call 37; refine (lock_free muLib ⟨b, 0, none⟩ _ h0 z0).mono ?_; rintro e w' ⟨rfl, rfl⟩))
  have hR := HR.out
  have k0 : (w.setCell ⟨b, 0, none⟩ (.int .i32 1)).cell? ⟨b, 0, none⟩ = some (.int .i32 1) := (blk_cell hR.BK 0).trans rfl
  have y0 := blk_frozen hR.BK 0
  refine leaves_cons (f := 38) (args := #[.pointer (some ⟨b, 0, none⟩)]) (by simp) (by simp [go_sem]) ?_
  refine (unlock_deferred muLib ⟨b, 0, none⟩ .returning _ k0 y0).mono ?_
  rintro e u' w2 ⟨rfl, rfl, rfl⟩
  refine ⟨_, results_tmp rfl _ _ _, rfl, ⟨hbb, sm, f, gs, hR.lock 0⟩, ?_⟩
  exact ((Fr.refl w (fun k => k = b)).setCell ⟨b, 0, none⟩ _ (fun _ => rfl)).setCell ⟨b, 0, none⟩ _ (fun _ => rfl)

def newPost (w : World) (e : Ending) (w' : World) : Prop :=
  ∃ b, e = .returned (.pointer (some ⟨b, 0, none⟩)) ∧ w.heap.size ≤ b ∧ Dq w' w.heap.size b (.slice none 0 0) [] ∧ Fr w w' (fun _ => False)

theorem New_any (w : World) : Calls Try.prog 16 #[] w (newPost w) := by
  go_enter Try.func16, Try.ntmps16
  go_wp2_with fail
  go_ret
  refine ⟨w.heap.size, rfl, Nat.le_refl _, ⟨Nat.le_refl _, 0, 0, [], ?_, ?_, by simp [Value.ownBlock], by omega, .inr ⟨rfl, rfl⟩, by simp, fun i hi => by simp at hi, by simp⟩, (Fr.refl w _).alloc _⟩
  · simpa using heap_alloc_new w _
  · exact World.ownsRow_nil _ _ _ _
end Go.Proofs.Yteohlbnmmlejnaa
