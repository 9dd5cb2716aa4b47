/-
 Part D of what the law's proof needs: walks of the program's functions and the plain laws of what they tell. No condition.
-/
import Derived.Test.YtcbcacbbnojdjaaGreatDoorMgA
import Derived.Test.YtcbcacbbnojdjaaGreatDoorRows
import Derived.WalkKit
import Derived.BigQuiet
import Derived.Below
import Derived.Lib.Hide
import Derived.KernelRfl
import Derived.WalkSmall
import Derived.StillTailTactics
import Derived.Laws.EntriesVeiled
namespace Go.Proofs.YtcbcacbbnojdjaaGreatDoor
open Go.Proofs.YtcbcacbbnojdjaaGreatDoor.PSolveFunctions
set_option linter.unusedVariables false
set_option linter.unusedSimpArgs false
abbrev Ins := S79
abbrev Fun := S66
abbrev zI : Ins := z79
abbrev zF : Fun := z66
inductive Part where
 | R | S | T | i | c | f | g | F | J | A | B | V
 deriving DecidableEq
def table : List (List Part) :=
 [[], [.R, .i], [.R, .S], [.R, .S, .T], [.R, .S, .T], [.R, .S], [.R, .c], [.R, .S, .f], [.R, .S, .f], [.R, .g], [.S, .g], [.F, .A, .B], [.S], [.J], [.S, .J], [.V], [.R], [.R, .S, .T]]
def Part.mask : Part → Nat
 | .R => 1 | .S => 2 | .T => 4 | .i => 8 | .c => 8 | .f => 8 | .g => 8 | .F => 8 | .J => 8 | .A => 16 | .B => 32 | .V => 16
def runTo {σ : Type} (step : σ → Nat → Except Int σ) (s : σ) : Nat → Except Int σ
 | 0 => .ok s
 | k + 1 => match runTo step s k with
  | .ok s' => step s' k
  | .error e => .error e
theorem runTo_succ {σ : Type} {step : σ → Nat → Except Int σ} {s s' : σ} {k : Nat} (h : runTo step s k = .ok s') : runTo step s (k + 1) = step s' k := by
 rw [runTo, h]
theorem runTo_stop {σ : Type} {step : σ → Nat → Except Int σ} {s : σ} {e : Int} {k : Nat} (h : runTo step s k = .error e) : ∀ n, runTo step s (k + n) = .error e
 | 0 => h
 | n + 1 => by rw [show k + (n + 1) = (k + n) + 1 by omega, runTo, runTo_stop h n]
theorem runTo_err {σ : Type} {step : σ → Nat → Except Int σ} {s s' : σ} {e : Int} {k n : Nat} (h : runTo step s k = .ok s') (he : step s' k = .error e) (hk : k < n) : runTo step s n = .error e := by
 have := runTo_stop (step := step) (s := s) (e := e) (k := k + 1) ((runTo_succ h).trans he) (n - (k + 1))
 rwa [show k + 1 + (n - (k + 1)) = n by omega] at this
def need (ok : Bool) (e : Int) : Except Int Unit := if ok then .ok () else .error e
def varOk (f : Fun) (v : Int) : Bool := decide (0 ≤ v ∧ v < f.f2)
def listQ (f : Fun) (l : List Int) (m : Int) : Except Int Unit :=
 if (l.length : Int) = m then runTo (fun _ j => need (varOk f (l.getD j 0)) 13) () l.length else .error 15
def askQ (G : Int) (fs : List Fun) (f : Fun) (x : Ins) (n : Int) : Part → Except Int Unit
 | .R => need (varOk f x.f1) 13
 | .S => need (varOk f x.f2) 13
 | .T => need (varOk f x.f3) 13
 | .i => .ok ()
 | .c => need (decide (1 ≤ x.f4 ∧ x.f4 < 9)) 17
 | .f => need (decide (0 ≤ x.f4 ∧ x.f4 < 8)) 17
 | .g => need (decide (0 ≤ x.f4 ∧ x.f4 < G)) 18
 | .F => need (decide (0 ≤ x.f4 ∧ x.f4 < fs.length)) 14
 | .J => need (decide (0 ≤ x.f4 ∧ x.f4 < n)) 16
 | .A => listQ f x.f5 (fs.getD x.f4.toNat zF).f0
 | .B => listQ f x.f6 (fs.getD x.f4.toNat zF).f1
 | .V => listQ f x.f5 f.f1
def headQ (l : Int) (f : Fun) (n : Int) : Except Int Int :=
 if 0 ≤ f.f0 ∧ f.f0 ≤ (if f.f2 < 8 then f.f2 else 8) ∧ 0 ≤ f.f1 ∧ f.f1 ≤ 4 ∧ f.f2 ≤ 255 ∧ n ≤ 4096 then
  if 1 ≤ n then
   if l + f.f2 < 1048576 then .ok (l + f.f2) else .error 21
  else .error 19
 else .error 20
def used (x : Ins) : List Bool := [x.f1 != 0, x.f2 != 0, x.f3 != 0, x.f4 != 0, decide (0 < x.f5.length), decide (0 < x.f6.length)]
def maskTo (ps : List Part) : Nat → Int
 | 0 => 0
 | j + 1 => bits .or .i64 (maskTo ps j) ((ps.getD j .i).mask : Int)
def usedTo (ys : List Bool) : Nat → Int
 | 0 => 0
 | j + 1 => if ys.getD j false then bits .or .i64 (usedTo ys j) ([1, 2, 4, 8, 16, 32].getD j 0) else usedTo ys j
def plainB (ps : List Part) (x : Ins) : Bool := bits .andNot .i64 (usedTo (used x) 6) (maskTo ps ps.length) == 0
def opQ (l : Int) (x : Ins) (last : Bool) : Except Int Int :=
 if 1 ≤ x.f0 ∧ x.f0 < 18 then
  if plainB (table.getD x.f0.toNat []) x then
   if last = false ∨ x.f0 = 13 ∨ x.f0 = 15 then
    if x.f0 = 6 then
     if l + 1 < 1048576 then .ok (l + 1) else .error 21
    else .ok l
   else .error 19
  else .error 1
 else .error 12
def partsQ (G : Int) (fs : List Fun) (f : Fun) (x : Ins) (n : Int) : Except Int Unit :=
 runTo (fun _ j => askQ G fs f x n ((table.getD x.f0.toNat []).getD j .i)) () (table.getD x.f0.toNat []).length
def instrQ (G : Int) (fs : List Fun) (f : Fun) (l : Int) (k : Nat) : Except Int Int :=
 match opQ l (f.f3.getD k zI) (decide (k + 1 = f.f3.length)) with
 | .ok l' => match partsQ G fs f (f.f3.getD k zI) f.f3.length with
  | .ok _ => .ok l'
  | .error e => .error e
 | .error e => .error e
def codeQ (G : Int) (fs : List Fun) (l : Int) (i : Nat) : Except Int Int := runTo (instrQ G fs (fs.getD i zF)) l (fs.getD i zF).f3.length
def headsQ (fs : List Fun) : Except Int Int := runTo (fun l i => headQ l (fs.getD i zF) (fs.getD i zF).f3.length) 0 fs.length
def codesQ (G : Int) (fs : List Fun) (l : Int) : Except Int Int := runTo (codeQ G fs) l fs.length
def chkQ (G : Int) (fs : List Fun) : Except Int Int :=
 if 0 ≤ G ∧ G ≤ 16 then
  if 1 ≤ (fs.length : Int) ∧ (fs.length : Int) ≤ 65535 then
   match headsQ fs with
   | .ok l => codesQ G fs l
   | .error e => .error e
  else .error 20
 else .error 18
def chk (G : Int) (fs : List Fun) : Int := match chkQ G fs with
 | .ok _ => 0
 | .error e => e
open Go.RowKit
def thrown (err : Int) : Ending := .panicked [{ v := .iface 193 (.agg #[.int .i64 err, .int .i64 0]), recovered := false }]
def asked (ok : Bool) (err : Int) : Ending := match ok with
 | true => .returned (.tuple #[])
 | false => thrown err
theorem asked_no (err : Int) : asked false err = thrown err := rfl
theorem asked_yes (err : Int) : asked true err = .returned (.tuple #[]) := rfl
theorem must_any (a : Nat) (ok : Bool) (err : Int) (w : World) (h : w.cell? ⟨a, 4, none⟩ = some (.int .i64 0)) : Calls Tryz.prog 188 #[.pointer (some ⟨a, 0, none⟩), .bool ok, .int .i64 err] w fun e w' => e = asked ok err ∧ w = w' := by
 cases ok with
 | true =>
  go_enter Tryz.func188, Tryz.ntmps188
  go_wp2_with fail
  go_end0
  exact ⟨rfl, rfl⟩
 | false =>
  go_enter Tryz.func188, Tryz.ntmps188
  go_wp2_with fail
  exact ⟨rfl, rfl, rfl⟩
theorem must_yes (a : Nat) (err : Int) (w : World) (h : w.cell? ⟨a, 4, none⟩ = some (.int .i64 0)) : Calls Tryz.prog 188 #[.pointer (some ⟨a, 0, none⟩), .bool true, .int .i64 err] w fun e w' => e = .returned (.tuple #[]) ∧ w = w' := must_any a true err w h
theorem must_not (a : Nat) (err : Int) (w : World) (h : w.cell? ⟨a, 4, none⟩ = some (.int .i64 0)) : Calls Tryz.prog 188 #[.pointer (some ⟨a, 0, none⟩), .bool false, .int .i64 err] w fun e w' => e = thrown err ∧ w = w' := must_any a false err w h
theorem globals_any (a : Nat) (n : Int) (w : World) (h : w.cell? ⟨a, 4, none⟩ = some (.int .i64 0)) : Calls Tryz.prog 142 #[.pointer (some ⟨a, 0, none⟩), .int .i64 n] w fun e w' => e = asked (decide (0 ≤ n ∧ n ≤ 16)) 18 ∧ w = w' := by
 by_cases h1 : 0 ≤ n
 ·by_cases h2 : n ≤ 16
  ·rw [decide_eq_true (show 0 ≤ n ∧ n ≤ 16 from ⟨h1, h2⟩), asked_yes]
   go_enter Tryz.func142, Tryz.ntmps142
   go_wp2_with fail
   refine (must_yes a 18 w h).mono ?_
   rintro e w1 ⟨rfl, rfl⟩
   go_wp2_with fail
   go_end0
   exact ⟨rfl, rfl⟩
  ·rw [decide_eq_false (show ¬ (0 ≤ n ∧ n ≤ 16) from fun h => h2 h.2), asked_no]
   go_enter Tryz.func142, Tryz.ntmps142
   go_wp2_with fail
   refine (must_not a 18 w h).mono ?_
   rintro e w1 ⟨rfl, rfl⟩
   exact ⟨rfl, rfl, rfl⟩
 ·rw [decide_eq_false (show ¬ (0 ≤ n ∧ n ≤ 16) from fun h => h1 h.1), asked_no]
  go_enter Tryz.func142, Tryz.ntmps142
  go_wp2_with fail
  refine (must_not a 18 w h).mono ?_
  rintro e w1 ⟨rfl, rfl⟩
  exact ⟨rfl, rfl, rfl⟩
set_option maxRecDepth 20000 in
theorem funcs_any (a : Nat) (n : Int) (w : World) (h : w.cell? ⟨a, 4, none⟩ = some (.int .i64 0)) : Calls Tryz.prog 143 #[.pointer (some ⟨a, 0, none⟩), .int .i64 n] w fun e w' => e = asked (decide (1 ≤ n ∧ n ≤ 65535)) 20 ∧ w = w' := by
 by_cases h1 : 1 ≤ n
 ·by_cases h2 : n ≤ 65535
  ·rw [decide_eq_true (show 1 ≤ n ∧ n ≤ 65535 from ⟨h1, h2⟩), asked_yes]
   go_enter Tryz.func143, Tryz.ntmps143
   go_wp2_with fail
   refine (must_yes a 20 w h).mono ?_
   rintro e w1 ⟨rfl, rfl⟩
   go_wp2_with fail
   go_end0
   exact ⟨rfl, rfl⟩
  ·rw [decide_eq_false (show ¬ (1 ≤ n ∧ n ≤ 65535) from fun h => h2 h.2), asked_no]
   go_enter Tryz.func143, Tryz.ntmps143
   go_wp2_with fail
   refine (must_not a 20 w h).mono ?_
   rintro e w1 ⟨rfl, rfl⟩
   exact ⟨rfl, rfl, rfl⟩
 ·rw [decide_eq_false (show ¬ (1 ≤ n ∧ n ≤ 65535) from fun h => h1 h.1), asked_no]
  go_enter Tryz.func143, Tryz.ntmps143
  go_wp2_with fail
  refine (must_not a 20 w h).mono ?_
  rintro e w1 ⟨rfl, rfl⟩
  exact ⟨rfl, rfl, rfl⟩
theorem ofR_any (p : Addr) (w : World) : Calls Tryz.prog 171 #[.pointer (some p)] w fun e w' => e = .returned (.pointer (some ⟨p.block, p.off + 1, none⟩)) ∧ w = w' := by
 go_enter Tryz.func171, Tryz.ntmps171
 go_wp2_with fail
 go_ret
 exact ⟨rfl, rfl⟩
theorem ofS_any (p : Addr) (w : World) : Calls Tryz.prog 172 #[.pointer (some p)] w fun e w' => e = .returned (.pointer (some ⟨p.block, p.off + 2, none⟩)) ∧ w = w' := by
 go_enter Tryz.func172, Tryz.ntmps172
 go_wp2_with fail
 go_ret
 exact ⟨rfl, rfl⟩
theorem ofT_any (p : Addr) (w : World) : Calls Tryz.prog 173 #[.pointer (some p)] w fun e w' => e = .returned (.pointer (some ⟨p.block, p.off + 3, none⟩)) ∧ w = w' := by
 go_enter Tryz.func173, Tryz.ntmps173
 go_wp2_with fail
 go_ret
 exact ⟨rfl, rfl⟩
theorem ofArgs_any (p : Addr) (w : World) : Calls Tryz.prog 183 #[.pointer (some p)] w fun e w' => e = .returned (.pointer (some ⟨p.block, p.off + 5, none⟩)) ∧ w = w' := by
 go_enter Tryz.func183, Tryz.ntmps183
 go_wp2_with fail
 go_ret
 exact ⟨rfl, rfl⟩
theorem ofRets_any (p : Addr) (w : World) : Calls Tryz.prog 185 #[.pointer (some p)] w fun e w' => e = .returned (.pointer (some ⟨p.block, p.off + 6, none⟩)) ∧ w = w' := by
 go_enter Tryz.func185, Tryz.ntmps185
 go_wp2_with fail
 go_ret
 exact ⟨rfl, rfl⟩
set_option maxRecDepth 100000 in
set_option maxHeartbeats 1600000 in
theorem varR_any (a c : Nat) (q p : Addr) (n v vars : Int) (w : World)
  (h4 : w.cell? ⟨a, 4, none⟩ = some (.int .i64 0)) (hc : w.cell? ⟨c, 0, none⟩ = some (.func (.func 171) #[] #[]))
  (hq : w.cell? ⟨q.block, q.off + 2, none⟩ = some (.int .i64 vars)) (hv : w.cell? ⟨p.block, p.off + 1, none⟩ = some (.int .i64 v)) :
  Calls Tryz.prog 198 #[.pointer (some ⟨a, 0, none⟩), .pointer (some q), .pointer (some p), .int .i64 n, .pointer (some ⟨c, 0, none⟩)] w fun e w' => e = asked (decide (0 ≤ v ∧ v < vars)) 13 ∧ w = w' := by
 by_cases h1 : 0 ≤ v
 ·by_cases h2 : v < vars
  ·rw [decide_eq_true (show 0 ≤ v ∧ v < vars from ⟨h1, h2⟩), asked_yes]
   go_enter Tryz.func198, Tryz.ntmps198
   go_wp2_with fail
   refine (ofR_any p w).mono ?_
   rintro e w1 ⟨rfl, rfl⟩
   go_wp2_with fail
   refine (must_yes a 13 w h4).mono ?_
   rintro e w1 ⟨rfl, rfl⟩
   go_wp2_with fail
   go_end0
   exact ⟨rfl, rfl⟩
  ·rw [decide_eq_false (show ¬ (0 ≤ v ∧ v < vars) from fun h => h2 h.2), asked_no]
   have d2 : decide (v < vars) = false := decide_eq_false h2
   go_enter Tryz.func198, Tryz.ntmps198
   go_wp2_with fail
   refine (ofR_any p w).mono ?_
   rintro e w1 ⟨rfl, rfl⟩
   go_wp2_with fail
   refine (must_not a 13 w h4).mono ?_
   rintro e w1 ⟨rfl, rfl⟩
   exact ⟨rfl, rfl, rfl⟩
 ·rw [decide_eq_false (show ¬ (0 ≤ v ∧ v < vars) from fun h => h1 h.1), asked_no]
  have d1 : decide (0 ≤ v) = false := decide_eq_false h1
  go_enter Tryz.func198, Tryz.ntmps198
  go_wp2_with fail
  refine (ofR_any p w).mono ?_
  rintro e w1 ⟨rfl, rfl⟩
  go_wp2_with fail
  refine (must_not a 13 w h4).mono ?_
  rintro e w1 ⟨rfl, rfl⟩
  exact ⟨rfl, rfl, rfl⟩
set_option maxRecDepth 100000 in
set_option maxHeartbeats 1600000 in
theorem varS_any (a c : Nat) (q p : Addr) (n v vars : Int) (w : World)
  (h4 : w.cell? ⟨a, 4, none⟩ = some (.int .i64 0)) (hc : w.cell? ⟨c, 0, none⟩ = some (.func (.func 172) #[] #[]))
  (hq : w.cell? ⟨q.block, q.off + 2, none⟩ = some (.int .i64 vars)) (hv : w.cell? ⟨p.block, p.off + 2, none⟩ = some (.int .i64 v)) :
  Calls Tryz.prog 198 #[.pointer (some ⟨a, 0, none⟩), .pointer (some q), .pointer (some p), .int .i64 n, .pointer (some ⟨c, 0, none⟩)] w fun e w' => e = asked (decide (0 ≤ v ∧ v < vars)) 13 ∧ w = w' := by
 by_cases h1 : 0 ≤ v
 ·by_cases h2 : v < vars
  ·rw [decide_eq_true (show 0 ≤ v ∧ v < vars from ⟨h1, h2⟩), asked_yes]
   go_enter Tryz.func198, Tryz.ntmps198
   go_wp2_with fail
   refine (ofS_any p w).mono ?_
   rintro e w1 ⟨rfl, rfl⟩
   go_wp2_with fail
   refine (must_yes a 13 w h4).mono ?_
   rintro e w1 ⟨rfl, rfl⟩
   go_wp2_with fail
   go_end0
   exact ⟨rfl, rfl⟩
  ·rw [decide_eq_false (show ¬ (0 ≤ v ∧ v < vars) from fun h => h2 h.2), asked_no]
   have d2 : decide (v < vars) = false := decide_eq_false h2
   go_enter Tryz.func198, Tryz.ntmps198
   go_wp2_with fail
   refine (ofS_any p w).mono ?_
   rintro e w1 ⟨rfl, rfl⟩
   go_wp2_with fail
   refine (must_not a 13 w h4).mono ?_
   rintro e w1 ⟨rfl, rfl⟩
   exact ⟨rfl, rfl, rfl⟩
 ·rw [decide_eq_false (show ¬ (0 ≤ v ∧ v < vars) from fun h => h1 h.1), asked_no]
  have d1 : decide (0 ≤ v) = false := decide_eq_false h1
  go_enter Tryz.func198, Tryz.ntmps198
  go_wp2_with fail
  refine (ofS_any p w).mono ?_
  rintro e w1 ⟨rfl, rfl⟩
  go_wp2_with fail
  refine (must_not a 13 w h4).mono ?_
  rintro e w1 ⟨rfl, rfl⟩
  exact ⟨rfl, rfl, rfl⟩
set_option maxRecDepth 100000 in
set_option maxHeartbeats 1600000 in
theorem varT_any (a c : Nat) (q p : Addr) (n v vars : Int) (w : World)
  (h4 : w.cell? ⟨a, 4, none⟩ = some (.int .i64 0)) (hc : w.cell? ⟨c, 0, none⟩ = some (.func (.func 173) #[] #[]))
  (hq : w.cell? ⟨q.block, q.off + 2, none⟩ = some (.int .i64 vars)) (hv : w.cell? ⟨p.block, p.off + 3, none⟩ = some (.int .i64 v)) :
  Calls Tryz.prog 198 #[.pointer (some ⟨a, 0, none⟩), .pointer (some q), .pointer (some p), .int .i64 n, .pointer (some ⟨c, 0, none⟩)] w fun e w' => e = asked (decide (0 ≤ v ∧ v < vars)) 13 ∧ w = w' := by
 by_cases h1 : 0 ≤ v
 ·by_cases h2 : v < vars
  ·rw [decide_eq_true (show 0 ≤ v ∧ v < vars from ⟨h1, h2⟩), asked_yes]
   go_enter Tryz.func198, Tryz.ntmps198
   go_wp2_with fail
   refine (ofT_any p w).mono ?_
   rintro e w1 ⟨rfl, rfl⟩
   go_wp2_with fail
   refine (must_yes a 13 w h4).mono ?_
   rintro e w1 ⟨rfl, rfl⟩
   go_wp2_with fail
   go_end0
   exact ⟨rfl, rfl⟩
  ·rw [decide_eq_false (show ¬ (0 ≤ v ∧ v < vars) from fun h => h2 h.2), asked_no]
   have d2 : decide (v < vars) = false := decide_eq_false h2
   go_enter Tryz.func198, Tryz.ntmps198
   go_wp2_with fail
   refine (ofT_any p w).mono ?_
   rintro e w1 ⟨rfl, rfl⟩
   go_wp2_with fail
   refine (must_not a 13 w h4).mono ?_
   rintro e w1 ⟨rfl, rfl⟩
   exact ⟨rfl, rfl, rfl⟩
 ·rw [decide_eq_false (show ¬ (0 ≤ v ∧ v < vars) from fun h => h1 h.1), asked_no]
  have d1 : decide (0 ≤ v) = false := decide_eq_false h1
  go_enter Tryz.func198, Tryz.ntmps198
  go_wp2_with fail
  refine (ofT_any p w).mono ?_
  rintro e w1 ⟨rfl, rfl⟩
  go_wp2_with fail
  refine (must_not a 13 w h4).mono ?_
  rintro e w1 ⟨rfl, rfl⟩
  exact ⟨rfl, rfl, rfl⟩
set_option maxRecDepth 100000 in
set_option maxHeartbeats 1600000 in
theorem belowFields_any (a b0 b1 b2 : Nat) (q p : Addr) (n lo err v m : Int) (w : World) (h4 : w.cell? ⟨a, 4, none⟩ = some (.int .i64 0))
  (c0 : w.cell? ⟨b0, 0, none⟩ = some (.int .i64 lo)) (c1 : w.cell? ⟨b1, 0, none⟩ = some (.func (.func 177) #[] #[])) (c2 : w.cell? ⟨b2, 0, none⟩ = some (.int .i64 err))
  (hv : w.cell? ⟨p.block, p.off + 4, none⟩ = some (.int .i64 v)) (hend : Calls Tryz.prog 177 #[.pointer (some ⟨a, 0, none⟩), .int .i64 n] w.drew fun e w' => e = .returned (.int .i64 m) ∧ w' = w.drew) :
  Calls Tryz.prog 204 #[.pointer (some ⟨a, 0, none⟩), .pointer (some q), .pointer (some p), .int .i64 n, .pointer (some ⟨b0, 0, none⟩), .pointer (some ⟨b1, 0, none⟩), .pointer (some ⟨b2, 0, none⟩)] w fun e w' => e = asked (decide (lo ≤ v ∧ v < m)) err ∧ w' = w.drew := by
 have HE := Lib.hid hend
 have h4' : w.drew.cell? ⟨a, 4, none⟩ = some (.int .i64 0) := h4
 clear hend
 by_cases h1 : lo ≤ v
 ·by_cases h2 : v < m
  ·rw [decide_eq_true (show lo ≤ v ∧ v < m from ⟨h1, h2⟩), asked_yes]
   have d1 : decide (lo ≤ v) = true := decide_eq_true h1
   have d2 : decide (v < m) = true := decide_eq_true h2
   go_enter Tryz.func204, Tryz.ntmps204
   go_wp2_with fail
   refine wp_region_still_tail 19 (by kernel_rfl) (by kernel_rfl) ?_
   change wpStill _ _ w.drew (fun a' => wpList _ _ _ _ a' w.drew) _ _
   simp only [List.take_succ_cons, List.take_zero, List.drop_succ_cons, List.drop_zero]
   repeat still_step
   still_call HE.out
   repeat still_step
   refine wpStill_nil ?_
   go_wp2_with fail
   refine (must_yes a err w.drew h4').mono ?_
   rintro e w1 ⟨rfl, rfl⟩
   go_wp2_with fail
   go_end0
   exact ⟨rfl, rfl⟩
  ·rw [decide_eq_false (show ¬ (lo ≤ v ∧ v < m) from fun h => h2 h.2), asked_no]
   have d1 : decide (lo ≤ v) = true := decide_eq_true h1
   have d2 : decide (v < m) = false := decide_eq_false h2
   go_enter Tryz.func204, Tryz.ntmps204
   go_wp2_with fail
   refine wp_region_still_tail 19 (by kernel_rfl) (by kernel_rfl) ?_
   change wpStill _ _ w.drew (fun a' => wpList _ _ _ _ a' w.drew) _ _
   simp only [List.take_succ_cons, List.take_zero, List.drop_succ_cons, List.drop_zero]
   repeat still_step
   still_call HE.out
   repeat still_step
   refine wpStill_nil ?_
   go_wp2_with fail
   refine (must_not a err w.drew h4').mono ?_
   rintro e w1 ⟨rfl, rfl⟩
   exact ⟨rfl, rfl, rfl⟩
 ·rw [decide_eq_false (show ¬ (lo ≤ v ∧ v < m) from fun h => h1 h.1), asked_no]
  obtain ⟨F, hF⟩ : ∃ F : Bool, F = false := ⟨_, rfl⟩
  have d1 : decide (lo ≤ v) = F := (decide_eq_false h1).trans hF.symm
  have hF' := Lib.hid (show ¬ F = true by rw [hF]; decide)
  clear h1 hF
  go_enter Tryz.func204, Tryz.ntmps204
  go_wp2_with fail
  refine wp_region_still_tail 19 (by kernel_rfl) (by kernel_rfl) ?_
  change wpStill _ _ w.drew (fun a' => wpList _ _ _ _ a' w.drew) _ _
  simp only [List.take_succ_cons, List.take_zero, List.drop_succ_cons, List.drop_zero]
  repeat (refine wpStill_step (fun K hK => ?_); go_simp; (try rw [if_neg hF'.out]); refine hK _ ?_; clear hK K)
  refine wpStill_nil ?_
  go_wp2_with fail
  refine (must_not a err w.drew h4').mono ?_
  rintro e w1 ⟨rfl, rfl⟩
  exact ⟨rfl, rfl, rfl⟩
set_option maxRecDepth 100000 in
set_option maxHeartbeats 1600000 in
theorem belowField_any (a b0 b1 b2 : Nat) (q p : Addr) (n lo err v m : Int) (w : World) (h4 : w.cell? ⟨a, 4, none⟩ = some (.int .i64 0))
  (c0 : w.cell? ⟨b0, 0, none⟩ = some (.int .i64 lo)) (c1 : w.cell? ⟨b1, 0, none⟩ = some (.func (.func 178) #[] #[])) (c2 : w.cell? ⟨b2, 0, none⟩ = some (.int .i64 err))
  (hv : w.cell? ⟨p.block, p.off + 4, none⟩ = some (.int .i64 v)) (hend : Calls Tryz.prog 178 #[.pointer (some ⟨a, 0, none⟩), .int .i64 n] w.drew fun e w' => e = .returned (.int .i64 m) ∧ w' = w.drew) :
  Calls Tryz.prog 204 #[.pointer (some ⟨a, 0, none⟩), .pointer (some q), .pointer (some p), .int .i64 n, .pointer (some ⟨b0, 0, none⟩), .pointer (some ⟨b1, 0, none⟩), .pointer (some ⟨b2, 0, none⟩)] w fun e w' => e = asked (decide (lo ≤ v ∧ v < m)) err ∧ w' = w.drew := by
 have HE := Lib.hid hend
 have h4' : w.drew.cell? ⟨a, 4, none⟩ = some (.int .i64 0) := h4
 clear hend
 by_cases h1 : lo ≤ v
 ·by_cases h2 : v < m
  ·rw [decide_eq_true (show lo ≤ v ∧ v < m from ⟨h1, h2⟩), asked_yes]
   have d1 : decide (lo ≤ v) = true := decide_eq_true h1
   have d2 : decide (v < m) = true := decide_eq_true h2
   go_enter Tryz.func204, Tryz.ntmps204
   go_wp2_with fail
   refine wp_region_still_tail 19 (by kernel_rfl) (by kernel_rfl) ?_
   change wpStill _ _ w.drew (fun a' => wpList _ _ _ _ a' w.drew) _ _
   simp only [List.take_succ_cons, List.take_zero, List.drop_succ_cons, List.drop_zero]
   repeat still_step
   still_call HE.out
   repeat still_step
   refine wpStill_nil ?_
   go_wp2_with fail
   refine (must_yes a err w.drew h4').mono ?_
   rintro e w1 ⟨rfl, rfl⟩
   go_wp2_with fail
   go_end0
   exact ⟨rfl, rfl⟩
  ·rw [decide_eq_false (show ¬ (lo ≤ v ∧ v < m) from fun h => h2 h.2), asked_no]
   have d1 : decide (lo ≤ v) = true := decide_eq_true h1
   have d2 : decide (v < m) = false := decide_eq_false h2
   go_enter Tryz.func204, Tryz.ntmps204
   go_wp2_with fail
   refine wp_region_still_tail 19 (by kernel_rfl) (by kernel_rfl) ?_
   change wpStill _ _ w.drew (fun a' => wpList _ _ _ _ a' w.drew) _ _
   simp only [List.take_succ_cons, List.take_zero, List.drop_succ_cons, List.drop_zero]
   repeat still_step
   still_call HE.out
   repeat still_step
   refine wpStill_nil ?_
   go_wp2_with fail
   refine (must_not a err w.drew h4').mono ?_
   rintro e w1 ⟨rfl, rfl⟩
   exact ⟨rfl, rfl, rfl⟩
 ·rw [decide_eq_false (show ¬ (lo ≤ v ∧ v < m) from fun h => h1 h.1), asked_no]
  obtain ⟨F, hF⟩ : ∃ F : Bool, F = false := ⟨_, rfl⟩
  have d1 : decide (lo ≤ v) = F := (decide_eq_false h1).trans hF.symm
  have hF' := Lib.hid (show ¬ F = true by rw [hF]; decide)
  clear h1 hF
  go_enter Tryz.func204, Tryz.ntmps204
  go_wp2_with fail
  refine wp_region_still_tail 19 (by kernel_rfl) (by kernel_rfl) ?_
  change wpStill _ _ w.drew (fun a' => wpList _ _ _ _ a' w.drew) _ _
  simp only [List.take_succ_cons, List.take_zero, List.drop_succ_cons, List.drop_zero]
  repeat (refine wpStill_step (fun K hK => ?_); go_simp; (try rw [if_neg hF'.out]); refine hK _ ?_; clear hK K)
  refine wpStill_nil ?_
  go_wp2_with fail
  refine (must_not a err w.drew h4').mono ?_
  rintro e w1 ⟨rfl, rfl⟩
  exact ⟨rfl, rfl, rfl⟩
set_option maxRecDepth 100000 in
set_option maxHeartbeats 1600000 in
theorem belowGlobal_any (a b0 b1 b2 : Nat) (q p : Addr) (n lo err v m : Int) (w : World) (h4 : w.cell? ⟨a, 4, none⟩ = some (.int .i64 0))
  (c0 : w.cell? ⟨b0, 0, none⟩ = some (.int .i64 lo)) (c1 : w.cell? ⟨b1, 0, none⟩ = some (.func (.func 179) #[] #[])) (c2 : w.cell? ⟨b2, 0, none⟩ = some (.int .i64 err))
  (hv : w.cell? ⟨p.block, p.off + 4, none⟩ = some (.int .i64 v)) (hend : Calls Tryz.prog 179 #[.pointer (some ⟨a, 0, none⟩), .int .i64 n] w.drew fun e w' => e = .returned (.int .i64 m) ∧ w' = w.drew) :
  Calls Tryz.prog 204 #[.pointer (some ⟨a, 0, none⟩), .pointer (some q), .pointer (some p), .int .i64 n, .pointer (some ⟨b0, 0, none⟩), .pointer (some ⟨b1, 0, none⟩), .pointer (some ⟨b2, 0, none⟩)] w fun e w' => e = asked (decide (lo ≤ v ∧ v < m)) err ∧ w' = w.drew := by
 have HE := Lib.hid hend
 have h4' : w.drew.cell? ⟨a, 4, none⟩ = some (.int .i64 0) := h4
 clear hend
 by_cases h1 : lo ≤ v
 ·by_cases h2 : v < m
  ·rw [decide_eq_true (show lo ≤ v ∧ v < m from ⟨h1, h2⟩), asked_yes]
   have d1 : decide (lo ≤ v) = true := decide_eq_true h1
   have d2 : decide (v < m) = true := decide_eq_true h2
   go_enter Tryz.func204, Tryz.ntmps204
   go_wp2_with fail
   refine wp_region_still_tail 19 (by kernel_rfl) (by kernel_rfl) ?_
   change wpStill _ _ w.drew (fun a' => wpList _ _ _ _ a' w.drew) _ _
   simp only [List.take_succ_cons, List.take_zero, List.drop_succ_cons, List.drop_zero]
   repeat still_step
   still_call HE.out
   repeat still_step
   refine wpStill_nil ?_
   go_wp2_with fail
   refine (must_yes a err w.drew h4').mono ?_
   rintro e w1 ⟨rfl, rfl⟩
   go_wp2_with fail
   go_end0
   exact ⟨rfl, rfl⟩
  ·rw [decide_eq_false (show ¬ (lo ≤ v ∧ v < m) from fun h => h2 h.2), asked_no]
   have d1 : decide (lo ≤ v) = true := decide_eq_true h1
   have d2 : decide (v < m) = false := decide_eq_false h2
   go_enter Tryz.func204, Tryz.ntmps204
   go_wp2_with fail
   refine wp_region_still_tail 19 (by kernel_rfl) (by kernel_rfl) ?_
   change wpStill _ _ w.drew (fun a' => wpList _ _ _ _ a' w.drew) _ _
   simp only [List.take_succ_cons, List.take_zero, List.drop_succ_cons, List.drop_zero]
   repeat still_step
   still_call HE.out
   repeat still_step
   refine wpStill_nil ?_
   go_wp2_with fail
   refine (must_not a err w.drew h4').mono ?_
   rintro e w1 ⟨rfl, rfl⟩
   exact ⟨rfl, rfl, rfl⟩
 ·rw [decide_eq_false (show ¬ (lo ≤ v ∧ v < m) from fun h => h1 h.1), asked_no]
  obtain ⟨F, hF⟩ : ∃ F : Bool, F = false := ⟨_, rfl⟩
  have d1 : decide (lo ≤ v) = F := (decide_eq_false h1).trans hF.symm
  have hF' := Lib.hid (show ¬ F = true by rw [hF]; decide)
  clear h1 hF
  go_enter Tryz.func204, Tryz.ntmps204
  go_wp2_with fail
  refine wp_region_still_tail 19 (by kernel_rfl) (by kernel_rfl) ?_
  change wpStill _ _ w.drew (fun a' => wpList _ _ _ _ a' w.drew) _ _
  simp only [List.take_succ_cons, List.take_zero, List.drop_succ_cons, List.drop_zero]
  repeat (refine wpStill_step (fun K hK => ?_); go_simp; (try rw [if_neg hF'.out]); refine hK _ ?_; clear hK K)
  refine wpStill_nil ?_
  go_wp2_with fail
  refine (must_not a err w.drew h4').mono ?_
  rintro e w1 ⟨rfl, rfl⟩
  exact ⟨rfl, rfl, rfl⟩
set_option maxRecDepth 100000 in
set_option maxHeartbeats 1600000 in
theorem belowFunction_any (a b0 b1 b2 : Nat) (q p : Addr) (n lo err v m : Int) (w : World) (h4 : w.cell? ⟨a, 4, none⟩ = some (.int .i64 0))
  (c0 : w.cell? ⟨b0, 0, none⟩ = some (.int .i64 lo)) (c1 : w.cell? ⟨b1, 0, none⟩ = some (.func (.func 180) #[] #[])) (c2 : w.cell? ⟨b2, 0, none⟩ = some (.int .i64 err))
  (hv : w.cell? ⟨p.block, p.off + 4, none⟩ = some (.int .i64 v)) (hend : Calls Tryz.prog 180 #[.pointer (some ⟨a, 0, none⟩), .int .i64 n] w.drew fun e w' => e = .returned (.int .i64 m) ∧ w' = w.drew) :
  Calls Tryz.prog 204 #[.pointer (some ⟨a, 0, none⟩), .pointer (some q), .pointer (some p), .int .i64 n, .pointer (some ⟨b0, 0, none⟩), .pointer (some ⟨b1, 0, none⟩), .pointer (some ⟨b2, 0, none⟩)] w fun e w' => e = asked (decide (lo ≤ v ∧ v < m)) err ∧ w' = w.drew := by
 have HE := Lib.hid hend
 have h4' : w.drew.cell? ⟨a, 4, none⟩ = some (.int .i64 0) := h4
 clear hend
 by_cases h1 : lo ≤ v
 ·by_cases h2 : v < m
  ·rw [decide_eq_true (show lo ≤ v ∧ v < m from ⟨h1, h2⟩), asked_yes]
   have d1 : decide (lo ≤ v) = true := decide_eq_true h1
   have d2 : decide (v < m) = true := decide_eq_true h2
   go_enter Tryz.func204, Tryz.ntmps204
   go_wp2_with fail
   refine wp_region_still_tail 19 (by kernel_rfl) (by kernel_rfl) ?_
   change wpStill _ _ w.drew (fun a' => wpList _ _ _ _ a' w.drew) _ _
   simp only [List.take_succ_cons, List.take_zero, List.drop_succ_cons, List.drop_zero]
   repeat still_step
   still_call HE.out
   repeat still_step
   refine wpStill_nil ?_
   go_wp2_with fail
   refine (must_yes a err w.drew h4').mono ?_
   rintro e w1 ⟨rfl, rfl⟩
   go_wp2_with fail
   go_end0
   exact ⟨rfl, rfl⟩
  ·rw [decide_eq_false (show ¬ (lo ≤ v ∧ v < m) from fun h => h2 h.2), asked_no]
   have d1 : decide (lo ≤ v) = true := decide_eq_true h1
   have d2 : decide (v < m) = false := decide_eq_false h2
   go_enter Tryz.func204, Tryz.ntmps204
   go_wp2_with fail
   refine wp_region_still_tail 19 (by kernel_rfl) (by kernel_rfl) ?_
   change wpStill _ _ w.drew (fun a' => wpList _ _ _ _ a' w.drew) _ _
   simp only [List.take_succ_cons, List.take_zero, List.drop_succ_cons, List.drop_zero]
   repeat still_step
   still_call HE.out
   repeat still_step
   refine wpStill_nil ?_
   go_wp2_with fail
   refine (must_not a err w.drew h4').mono ?_
   rintro e w1 ⟨rfl, rfl⟩
   exact ⟨rfl, rfl, rfl⟩
 ·rw [decide_eq_false (show ¬ (lo ≤ v ∧ v < m) from fun h => h1 h.1), asked_no]
  obtain ⟨F, hF⟩ : ∃ F : Bool, F = false := ⟨_, rfl⟩
  have d1 : decide (lo ≤ v) = F := (decide_eq_false h1).trans hF.symm
  have hF' := Lib.hid (show ¬ F = true by rw [hF]; decide)
  clear h1 hF
  go_enter Tryz.func204, Tryz.ntmps204
  go_wp2_with fail
  refine wp_region_still_tail 19 (by kernel_rfl) (by kernel_rfl) ?_
  change wpStill _ _ w.drew (fun a' => wpList _ _ _ _ a' w.drew) _ _
  simp only [List.take_succ_cons, List.take_zero, List.drop_succ_cons, List.drop_zero]
  repeat (refine wpStill_step (fun K hK => ?_); go_simp; (try rw [if_neg hF'.out]); refine hK _ ?_; clear hK K)
  refine wpStill_nil ?_
  go_wp2_with fail
  refine (must_not a err w.drew h4').mono ?_
  rintro e w1 ⟨rfl, rfl⟩
  exact ⟨rfl, rfl, rfl⟩
set_option maxRecDepth 100000 in
set_option maxHeartbeats 1600000 in
theorem belowJump_any (a b0 b1 b2 : Nat) (q p : Addr) (n lo err v m : Int) (w : World) (h4 : w.cell? ⟨a, 4, none⟩ = some (.int .i64 0))
  (c0 : w.cell? ⟨b0, 0, none⟩ = some (.int .i64 lo)) (c1 : w.cell? ⟨b1, 0, none⟩ = some (.func (.func 181) #[] #[])) (c2 : w.cell? ⟨b2, 0, none⟩ = some (.int .i64 err))
  (hv : w.cell? ⟨p.block, p.off + 4, none⟩ = some (.int .i64 v)) (hend : Calls Tryz.prog 181 #[.pointer (some ⟨a, 0, none⟩), .int .i64 n] w.drew fun e w' => e = .returned (.int .i64 m) ∧ w' = w.drew) :
  Calls Tryz.prog 204 #[.pointer (some ⟨a, 0, none⟩), .pointer (some q), .pointer (some p), .int .i64 n, .pointer (some ⟨b0, 0, none⟩), .pointer (some ⟨b1, 0, none⟩), .pointer (some ⟨b2, 0, none⟩)] w fun e w' => e = asked (decide (lo ≤ v ∧ v < m)) err ∧ w' = w.drew := by
 have HE := Lib.hid hend
 have h4' : w.drew.cell? ⟨a, 4, none⟩ = some (.int .i64 0) := h4
 clear hend
 by_cases h1 : lo ≤ v
 ·by_cases h2 : v < m
  ·rw [decide_eq_true (show lo ≤ v ∧ v < m from ⟨h1, h2⟩), asked_yes]
   have d1 : decide (lo ≤ v) = true := decide_eq_true h1
   have d2 : decide (v < m) = true := decide_eq_true h2
   go_enter Tryz.func204, Tryz.ntmps204
   go_wp2_with fail
   refine wp_region_still_tail 19 (by kernel_rfl) (by kernel_rfl) ?_
   change wpStill _ _ w.drew (fun a' => wpList _ _ _ _ a' w.drew) _ _
   simp only [List.take_succ_cons, List.take_zero, List.drop_succ_cons, List.drop_zero]
   repeat still_step
   still_call HE.out
   repeat still_step
   refine wpStill_nil ?_
   go_wp2_with fail
   refine (must_yes a err w.drew h4').mono ?_
   rintro e w1 ⟨rfl, rfl⟩
   go_wp2_with fail
   go_end0
   exact ⟨rfl, rfl⟩
  ·rw [decide_eq_false (show ¬ (lo ≤ v ∧ v < m) from fun h => h2 h.2), asked_no]
   have d1 : decide (lo ≤ v) = true := decide_eq_true h1
   have d2 : decide (v < m) = false := decide_eq_false h2
   go_enter Tryz.func204, Tryz.ntmps204
   go_wp2_with fail
   refine wp_region_still_tail 19 (by kernel_rfl) (by kernel_rfl) ?_
   change wpStill _ _ w.drew (fun a' => wpList _ _ _ _ a' w.drew) _ _
   simp only [List.take_succ_cons, List.take_zero, List.drop_succ_cons, List.drop_zero]
   repeat still_step
   still_call HE.out
   repeat still_step
   refine wpStill_nil ?_
   go_wp2_with fail
   refine (must_not a err w.drew h4').mono ?_
   rintro e w1 ⟨rfl, rfl⟩
   exact ⟨rfl, rfl, rfl⟩
 ·rw [decide_eq_false (show ¬ (lo ≤ v ∧ v < m) from fun h => h1 h.1), asked_no]
  obtain ⟨F, hF⟩ : ∃ F : Bool, F = false := ⟨_, rfl⟩
  have d1 : decide (lo ≤ v) = F := (decide_eq_false h1).trans hF.symm
  have hF' := Lib.hid (show ¬ F = true by rw [hF]; decide)
  clear h1 hF
  go_enter Tryz.func204, Tryz.ntmps204
  go_wp2_with fail
  refine wp_region_still_tail 19 (by kernel_rfl) (by kernel_rfl) ?_
  change wpStill _ _ w.drew (fun a' => wpList _ _ _ _ a' w.drew) _ _
  simp only [List.take_succ_cons, List.take_zero, List.drop_succ_cons, List.drop_zero]
  repeat (refine wpStill_step (fun K hK => ?_); go_simp; (try rw [if_neg hF'.out]); refine hK _ ?_; clear hK K)
  refine wpStill_nil ?_
  go_wp2_with fail
  refine (must_not a err w.drew h4').mono ?_
  rintro e w1 ⟨rfl, rfl⟩
  exact ⟨rfl, rfl, rfl⟩
open Go.RowKit Go.Proofs.YtcbcacbbnojdjaaGreatDoorW.PrintWords Go.Proofs.YtcbcacbbnojdjaaGreatDoor.PSolveFunctions
def ends {α : Type} : Except Int α → Ending
 | .ok _ => .returned (.tuple #[])
 | .error e => thrown e
theorem ends_need (ok : Bool) (e : Int) : ends (need ok e) = asked ok e := by cases ok <;> rfl
theorem endFields_any (a n : Value) (w : World) : Calls Tryz.prog 177 #[a, n] w fun e w' => e = .returned (.int .i64 9) ∧ w' = w := by
 go_enter Tryz.func177, Tryz.ntmps177
 go_wp2_with fail
 go_ret
 exact ⟨rfl, rfl⟩
theorem endField_any (a n : Value) (w : World) : Calls Tryz.prog 178 #[a, n] w fun e w' => e = .returned (.int .i64 8) ∧ w' = w := by
 go_enter Tryz.func178, Tryz.ntmps178
 go_wp2_with fail
 go_ret
 exact ⟨rfl, rfl⟩
theorem endGlobal_any (a : Nat) (n : Value) (G : Int) (w : World) (h : w.cell? ⟨a, 0, none⟩ = some (.int .i64 G)) : Calls Tryz.prog 179 #[.pointer (some ⟨a, 0, none⟩), n] w fun e w' => e = .returned (.int .i64 G) ∧ w' = w := by
 go_enter Tryz.func179, Tryz.ntmps179
 go_wp2_with fail
 go_ret
 exact ⟨rfl, rfl⟩
theorem endFunction_any (a : Nat) (n : Value) (A : Option Addr) (m c : Nat) (w : World) (h : w.cell? ⟨a, 1, none⟩ = some (.slice A m c)) : Calls Tryz.prog 180 #[.pointer (some ⟨a, 0, none⟩), n] w fun e w' => e = .returned (.int .i64 m) ∧ w' = w := by
 go_enter Tryz.func180, Tryz.ntmps180
 go_wp2_with fail
 go_ret
 exact ⟨rfl, rfl⟩
theorem endJump_any (a n : Value) (w : World) : Calls Tryz.prog 181 #[a, n] w fun e w' => e = .returned n ∧ w' = w := by
 go_enter Tryz.func181, Tryz.ntmps181
 go_wp2_with fail
 go_ret
 exact ⟨rfl, rfl⟩
theorem wantedA_any (a : Nat) (q p : Addr) (A : Option Addr) (c : Nat) (fs : List Fun) (v : Int) (w : World) (h : w.cell? ⟨a, 1, none⟩ = some (.slice A fs.length c)) (hC : k66.C w A fs.length fs)
  (hv : w.cell? ⟨p.block, p.off + 4, none⟩ = some (.int .i64 v)) (h0 : 0 ≤ v) (h1 : v < fs.length) :
  Calls Tryz.prog 184 #[.pointer (some ⟨a, 0, none⟩), .pointer (some q), .pointer (some p)] w fun e w' => e = .returned (.int .i64 (fs.getD v.toNat zF).f0) ∧ Drawn0 w w' := by
 obtain ⟨ad, A3, c3, rfl, e0, e1, e2, e3, _, _⟩ := at_T66 hC v h0 h1
 have HC := Lib.hid hC
 clear hC
 unfold rd_T66 at e0 e1 e2 e3
 generalize fs.getD v.toNat zF = g at e0 e1 e2 e3 ⊢
 go_enter Tryz.func184, Tryz.ntmps184
 go_wp2_with fail
 go_quiet (fail)
 go_wp2_with fail
 go_ret
 exact ⟨rfl, ⟨⟨_, rfl⟩⟩⟩
theorem wantedB_any (a : Nat) (q p : Addr) (A : Option Addr) (c : Nat) (fs : List Fun) (v : Int) (w : World) (h : w.cell? ⟨a, 1, none⟩ = some (.slice A fs.length c)) (hC : k66.C w A fs.length fs)
  (hv : w.cell? ⟨p.block, p.off + 4, none⟩ = some (.int .i64 v)) (h0 : 0 ≤ v) (h1 : v < fs.length) :
  Calls Tryz.prog 186 #[.pointer (some ⟨a, 0, none⟩), .pointer (some q), .pointer (some p)] w fun e w' => e = .returned (.int .i64 (fs.getD v.toNat zF).f1) ∧ Drawn0 w w' := by
 obtain ⟨ad, A3, c3, rfl, e0, e1, e2, e3, _, _⟩ := at_T66 hC v h0 h1
 have HC := Lib.hid hC
 clear hC
 unfold rd_T66 at e0 e1 e2 e3
 generalize fs.getD v.toNat zF = g at e0 e1 e2 e3 ⊢
 go_enter Tryz.func186, Tryz.ntmps186
 go_wp2_with fail
 go_quiet (fail)
 go_wp2_with fail
 go_ret
 exact ⟨rfl, ⟨⟨_, rfl⟩⟩⟩
theorem wantedV_any (a q p : Addr) (v : Int) (w : World) (h : w.cell? ⟨q.block, q.off + 1, none⟩ = some (.int .i64 v)) : Calls Tryz.prog 187 #[.pointer (some a), .pointer (some q), .pointer (some p)] w fun e w' => e = .returned (.int .i64 v) ∧ w' = w := by
 go_enter Tryz.func187, Tryz.ntmps187
 go_wp2_with fail
 go_ret
 exact ⟨rfl, rfl⟩
theorem drawn_cell {w w1 : World} (h : Drawn0 w w1) {a : Addr} {v : Value} (hc : w.cell? a = some v) : w1.cell? a = some v := by
 obtain ⟨n, rfl⟩ := h.out
 exact hc
set_option maxRecDepth 100000 in
set_option maxHeartbeats 1600000 in
theorem listA_any (a b0 b1 : Nat) (q p : Addr) (n m : Int) (f : Fun) (LA : Option Addr) (lc : Nat) (l : List Int) (w : World) (h4 : w.cell? ⟨a, 4, none⟩ = some (.int .i64 0))
  (c0 : w.cell? ⟨b0, 0, none⟩ = some (.func (.func 183) #[] #[])) (c1 : w.cell? ⟨b1, 0, none⟩ = some (.func (.func 184) #[] #[]))
  (hq : w.cell? ⟨q.block, q.off + 2, none⟩ = some (.int .i64 f.f2)) (hl : w.cell? ⟨p.block, p.off + 5, none⟩ = some (.slice LA l.length lc)) (hC : (Kd.int .i64).C w LA l.length l) (hlm : l.length ≤ 2147483647)
  (hend : Calls Tryz.prog 184 #[.pointer (some ⟨a, 0, none⟩), .pointer (some q), .pointer (some p)] w fun e w' => e = .returned (.int .i64 m) ∧ Drawn0 w w') :
  Calls Tryz.prog 205 #[.pointer (some ⟨a, 0, none⟩), .pointer (some q), .pointer (some p), .int .i64 n, .pointer (some ⟨b0, 0, none⟩), .pointer (some ⟨b1, 0, none⟩)] w fun e w' => e = ends (listQ f l m) ∧ Drawn0 w w' := by
 have HE := Lib.hid hend
 have HC := Lib.hid hC
 have HW := Lib.hid (Drawn0.refl w)
 clear hend hC
 by_cases hm : (l.length : Int) = m
 ·have hls : listQ f l m = runTo (fun _ j => need (varOk f (l.getD j 0)) 13) () l.length := by rw [listQ, if_pos hm]
  have HL := Lib.hid hls
  have HM := Lib.hid hm
  clear hls hm
  go_enter Tryz.func205, Tryz.ntmps205
  go_wp2_with fail
  refine (ofArgs_any p w).mono ?_
  rintro e w1 ⟨rfl, rfl⟩
  go_wp2_with fail
  refine HE.out.mono ?_
  rintro e w1 ⟨rfl, hd⟩
  have HD := Lib.hid hd
  have hb : ((l.length : Int) == m) = true := by rw [HM.out]; exact beq_self_eq_true _
  clear hd
  go_wp2_with fail
  refine (must_yes a 15 w1 (drawn_cell HD.out h4)).mono ?_
  rintro e w2 ⟨rfl, rfl⟩
  go_wp2_with fail
  clear hb
  have hq1 : w1.cell? ⟨q.block, q.off + 2, none⟩ = some (.int .i64 f.f2) := drawn_cell HD.out hq
  have h41 := drawn_cell HD.out h4
  have HC1 : Hid ((Kd.int .i64).C w1 LA l.length l) := Lib.hid (by obtain ⟨k, rfl⟩ := HD.out.out; exact HC.out)
  clear hq h4 hl c0 c1 HC HW HE
  go_loopw [30] (fun i wr => ∃ j : Nat, j ≤ l.length ∧ i = .int .i64 j ∧ wr = w1 ∧ runTo (fun _ j => need (varOk f (l.getD j 0)) 13) () j = .ok ()) (fun i _ => l.length - (intOf i).toNat)
  case atStart => exact ⟨0, by omega, rfl, by trivial, rfl⟩
  case round =>
   obtain ⟨j, hj, rfl, rfl, hR⟩ := hrel
   have HR := Lib.hid hR
   clear hR
   by_cases hlt : j < l.length
   ·obtain ⟨ad, rfl, hx⟩ := Kd.at_int HC1.out (j : Int) (by omega) (by omega)
    obtain ⟨v, hv0⟩ : ∃ v, v = l.getD j 0 := ⟨_, rfl⟩
    have hx' : rd l (j : Int) = v := hv0.symm
    rw [hx', Int.toNat_natCast] at hx
    have HG := Lib.hid hv0
    clear hv0 hx'
    by_cases h1 : 0 ≤ v
    ·by_cases h2 : v < f.f2
     ·have HS := Lib.hid ((runTo_succ HR.out).trans (show need (varOk f (l.getD j 0)) 13 = .ok () by rw [← HG.out, varOk, decide_eq_true (show 0 ≤ v ∧ v < f.f2 from ⟨h1, h2⟩)]; rfl))
      have d1 : decide (0 ≤ v) = true := decide_eq_true h1
      have d2 : decide (v < f.f2) = true := decide_eq_true h2
      go_wp2_with fail
      refine (must_yes a 13 wr h41).mono ?_
      rintro e w2 ⟨rfl, rfl⟩
      go_wp2_with fail
      go_roundw
      case rel => exact ⟨j + 1, by omega, by go_num, by trivial, HS.out⟩
      case measure => simp [intOf]; omega
     ·have HS := Lib.hid (runTo_err HR.out (show need (varOk f (l.getD j 0)) 13 = .error 13 by rw [← HG.out, varOk, decide_eq_false (show ¬ (0 ≤ v ∧ v < f.f2) from fun h => h2 h.2)]; rfl) hlt)
      have d1 : decide (0 ≤ v) = true := decide_eq_true h1
      have d2 : decide (v < f.f2) = false := decide_eq_false h2
      go_wp2_with fail
      refine (must_not a 13 wr h41).mono ?_
      rintro e w2 ⟨rfl, rfl⟩
      exact ⟨rfl, by rw [HL.out, HS.out]; rfl, HD.out⟩
    ·have HS := Lib.hid (runTo_err HR.out (show need (varOk f (l.getD j 0)) 13 = .error 13 by rw [← HG.out, varOk, decide_eq_false (show ¬ (0 ≤ v ∧ v < f.f2) from fun h => h1 h.1)]; rfl) hlt)
     have d1 : decide (0 ≤ v) = false := decide_eq_false h1
     go_wp2_with fail
     refine (must_not a 13 wr h41).mono ?_
     rintro e w2 ⟨rfl, rfl⟩
     exact ⟨rfl, by rw [HL.out, HS.out]; rfl, HD.out⟩
   ·obtain rfl : j = l.length := by omega
    go_wp2_with fail
    go_end0
    exact ⟨by rw [HL.out, HR.out]; rfl, HD.out⟩
 ·have hls : listQ f l m = .error 15 := by rw [listQ, if_neg hm]
  have HL := Lib.hid hls
  have HM := Lib.hid hm
  clear hls hm
  go_enter Tryz.func205, Tryz.ntmps205
  go_wp2_with fail
  refine (ofArgs_any p w).mono ?_
  rintro e w1 ⟨rfl, rfl⟩
  go_wp2_with fail
  refine HE.out.mono ?_
  rintro e w1 ⟨rfl, hd⟩
  have HD := Lib.hid hd
  have hb : ((l.length : Int) == m) = false := by simpa using HM.out
  clear hd
  go_wp2_with fail
  refine (must_not a 15 w1 (drawn_cell HD.out h4)).mono ?_
  rintro e w2 ⟨rfl, rfl⟩
  exact ⟨rfl, by rw [HL.out]; rfl, HD.out⟩
set_option maxRecDepth 100000 in
set_option maxHeartbeats 1600000 in
theorem listB_any (a b0 b1 : Nat) (q p : Addr) (n m : Int) (f : Fun) (LA : Option Addr) (lc : Nat) (l : List Int) (w : World) (h4 : w.cell? ⟨a, 4, none⟩ = some (.int .i64 0))
  (c0 : w.cell? ⟨b0, 0, none⟩ = some (.func (.func 185) #[] #[])) (c1 : w.cell? ⟨b1, 0, none⟩ = some (.func (.func 186) #[] #[]))
  (hq : w.cell? ⟨q.block, q.off + 2, none⟩ = some (.int .i64 f.f2)) (hl : w.cell? ⟨p.block, p.off + 6, none⟩ = some (.slice LA l.length lc)) (hC : (Kd.int .i64).C w LA l.length l) (hlm : l.length ≤ 2147483647)
  (hend : Calls Tryz.prog 186 #[.pointer (some ⟨a, 0, none⟩), .pointer (some q), .pointer (some p)] w fun e w' => e = .returned (.int .i64 m) ∧ Drawn0 w w') :
  Calls Tryz.prog 205 #[.pointer (some ⟨a, 0, none⟩), .pointer (some q), .pointer (some p), .int .i64 n, .pointer (some ⟨b0, 0, none⟩), .pointer (some ⟨b1, 0, none⟩)] w fun e w' => e = ends (listQ f l m) ∧ Drawn0 w w' := by
 have HE := Lib.hid hend
 have HC := Lib.hid hC
 have HW := Lib.hid (Drawn0.refl w)
 clear hend hC
 by_cases hm : (l.length : Int) = m
 ·have hls : listQ f l m = runTo (fun _ j => need (varOk f (l.getD j 0)) 13) () l.length := by rw [listQ, if_pos hm]
  have HL := Lib.hid hls
  have HM := Lib.hid hm
  clear hls hm
  go_enter Tryz.func205, Tryz.ntmps205
  go_wp2_with fail
  refine (ofRets_any p w).mono ?_
  rintro e w1 ⟨rfl, rfl⟩
  go_wp2_with fail
  refine HE.out.mono ?_
  rintro e w1 ⟨rfl, hd⟩
  have HD := Lib.hid hd
  have hb : ((l.length : Int) == m) = true := by rw [HM.out]; exact beq_self_eq_true _
  clear hd
  go_wp2_with fail
  refine (must_yes a 15 w1 (drawn_cell HD.out h4)).mono ?_
  rintro e w2 ⟨rfl, rfl⟩
  go_wp2_with fail
  clear hb
  have hq1 : w1.cell? ⟨q.block, q.off + 2, none⟩ = some (.int .i64 f.f2) := drawn_cell HD.out hq
  have h41 := drawn_cell HD.out h4
  have HC1 : Hid ((Kd.int .i64).C w1 LA l.length l) := Lib.hid (by obtain ⟨k, rfl⟩ := HD.out.out; exact HC.out)
  clear hq h4 hl c0 c1 HC HW HE
  go_loopw [30] (fun i wr => ∃ j : Nat, j ≤ l.length ∧ i = .int .i64 j ∧ wr = w1 ∧ runTo (fun _ j => need (varOk f (l.getD j 0)) 13) () j = .ok ()) (fun i _ => l.length - (intOf i).toNat)
  case atStart => exact ⟨0, by omega, rfl, by trivial, rfl⟩
  case round =>
   obtain ⟨j, hj, rfl, rfl, hR⟩ := hrel
   have HR := Lib.hid hR
   clear hR
   by_cases hlt : j < l.length
   ·obtain ⟨ad, rfl, hx⟩ := Kd.at_int HC1.out (j : Int) (by omega) (by omega)
    obtain ⟨v, hv0⟩ : ∃ v, v = l.getD j 0 := ⟨_, rfl⟩
    have hx' : rd l (j : Int) = v := hv0.symm
    rw [hx', Int.toNat_natCast] at hx
    have HG := Lib.hid hv0
    clear hv0 hx'
    by_cases h1 : 0 ≤ v
    ·by_cases h2 : v < f.f2
     ·have HS := Lib.hid ((runTo_succ HR.out).trans (show need (varOk f (l.getD j 0)) 13 = .ok () by rw [← HG.out, varOk, decide_eq_true (show 0 ≤ v ∧ v < f.f2 from ⟨h1, h2⟩)]; rfl))
      have d1 : decide (0 ≤ v) = true := decide_eq_true h1
      have d2 : decide (v < f.f2) = true := decide_eq_true h2
      go_wp2_with fail
      refine (must_yes a 13 wr h41).mono ?_
      rintro e w2 ⟨rfl, rfl⟩
      go_wp2_with fail
      go_roundw
      case rel => exact ⟨j + 1, by omega, by go_num, by trivial, HS.out⟩
      case measure => simp [intOf]; omega
     ·have HS := Lib.hid (runTo_err HR.out (show need (varOk f (l.getD j 0)) 13 = .error 13 by rw [← HG.out, varOk, decide_eq_false (show ¬ (0 ≤ v ∧ v < f.f2) from fun h => h2 h.2)]; rfl) hlt)
      have d1 : decide (0 ≤ v) = true := decide_eq_true h1
      have d2 : decide (v < f.f2) = false := decide_eq_false h2
      go_wp2_with fail
      refine (must_not a 13 wr h41).mono ?_
      rintro e w2 ⟨rfl, rfl⟩
      exact ⟨rfl, by rw [HL.out, HS.out]; rfl, HD.out⟩
    ·have HS := Lib.hid (runTo_err HR.out (show need (varOk f (l.getD j 0)) 13 = .error 13 by rw [← HG.out, varOk, decide_eq_false (show ¬ (0 ≤ v ∧ v < f.f2) from fun h => h1 h.1)]; rfl) hlt)
     have d1 : decide (0 ≤ v) = false := decide_eq_false h1
     go_wp2_with fail
     refine (must_not a 13 wr h41).mono ?_
     rintro e w2 ⟨rfl, rfl⟩
     exact ⟨rfl, by rw [HL.out, HS.out]; rfl, HD.out⟩
   ·obtain rfl : j = l.length := by omega
    go_wp2_with fail
    go_end0
    exact ⟨by rw [HL.out, HR.out]; rfl, HD.out⟩
 ·have hls : listQ f l m = .error 15 := by rw [listQ, if_neg hm]
  have HL := Lib.hid hls
  have HM := Lib.hid hm
  clear hls hm
  go_enter Tryz.func205, Tryz.ntmps205
  go_wp2_with fail
  refine (ofRets_any p w).mono ?_
  rintro e w1 ⟨rfl, rfl⟩
  go_wp2_with fail
  refine HE.out.mono ?_
  rintro e w1 ⟨rfl, hd⟩
  have HD := Lib.hid hd
  have hb : ((l.length : Int) == m) = false := by simpa using HM.out
  clear hd
  go_wp2_with fail
  refine (must_not a 15 w1 (drawn_cell HD.out h4)).mono ?_
  rintro e w2 ⟨rfl, rfl⟩
  exact ⟨rfl, by rw [HL.out]; rfl, HD.out⟩
set_option maxRecDepth 100000 in
set_option maxHeartbeats 1600000 in
theorem listV_any (a b0 b1 : Nat) (q p : Addr) (n m : Int) (f : Fun) (LA : Option Addr) (lc : Nat) (l : List Int) (w : World) (h4 : w.cell? ⟨a, 4, none⟩ = some (.int .i64 0))
  (c0 : w.cell? ⟨b0, 0, none⟩ = some (.func (.func 183) #[] #[])) (c1 : w.cell? ⟨b1, 0, none⟩ = some (.func (.func 187) #[] #[]))
  (hq : w.cell? ⟨q.block, q.off + 2, none⟩ = some (.int .i64 f.f2)) (hl : w.cell? ⟨p.block, p.off + 5, none⟩ = some (.slice LA l.length lc)) (hC : (Kd.int .i64).C w LA l.length l) (hlm : l.length ≤ 2147483647)
  (hend : Calls Tryz.prog 187 #[.pointer (some ⟨a, 0, none⟩), .pointer (some q), .pointer (some p)] w fun e w' => e = .returned (.int .i64 m) ∧ Drawn0 w w') :
  Calls Tryz.prog 205 #[.pointer (some ⟨a, 0, none⟩), .pointer (some q), .pointer (some p), .int .i64 n, .pointer (some ⟨b0, 0, none⟩), .pointer (some ⟨b1, 0, none⟩)] w fun e w' => e = ends (listQ f l m) ∧ Drawn0 w w' := by
 have HE := Lib.hid hend
 have HC := Lib.hid hC
 have HW := Lib.hid (Drawn0.refl w)
 clear hend hC
 by_cases hm : (l.length : Int) = m
 ·have hls : listQ f l m = runTo (fun _ j => need (varOk f (l.getD j 0)) 13) () l.length := by rw [listQ, if_pos hm]
  have HL := Lib.hid hls
  have HM := Lib.hid hm
  clear hls hm
  go_enter Tryz.func205, Tryz.ntmps205
  go_wp2_with fail
  refine (ofArgs_any p w).mono ?_
  rintro e w1 ⟨rfl, rfl⟩
  go_wp2_with fail
  refine HE.out.mono ?_
  rintro e w1 ⟨rfl, hd⟩
  have HD := Lib.hid hd
  have hb : ((l.length : Int) == m) = true := by rw [HM.out]; exact beq_self_eq_true _
  clear hd
  go_wp2_with fail
  refine (must_yes a 15 w1 (drawn_cell HD.out h4)).mono ?_
  rintro e w2 ⟨rfl, rfl⟩
  go_wp2_with fail
  clear hb
  have hq1 : w1.cell? ⟨q.block, q.off + 2, none⟩ = some (.int .i64 f.f2) := drawn_cell HD.out hq
  have h41 := drawn_cell HD.out h4
  have HC1 : Hid ((Kd.int .i64).C w1 LA l.length l) := Lib.hid (by obtain ⟨k, rfl⟩ := HD.out.out; exact HC.out)
  clear hq h4 hl c0 c1 HC HW HE
  go_loopw [30] (fun i wr => ∃ j : Nat, j ≤ l.length ∧ i = .int .i64 j ∧ wr = w1 ∧ runTo (fun _ j => need (varOk f (l.getD j 0)) 13) () j = .ok ()) (fun i _ => l.length - (intOf i).toNat)
  case atStart => exact ⟨0, by omega, rfl, by trivial, rfl⟩
  case round =>
   obtain ⟨j, hj, rfl, rfl, hR⟩ := hrel
   have HR := Lib.hid hR
   clear hR
   by_cases hlt : j < l.length
   ·obtain ⟨ad, rfl, hx⟩ := Kd.at_int HC1.out (j : Int) (by omega) (by omega)
    obtain ⟨v, hv0⟩ : ∃ v, v = l.getD j 0 := ⟨_, rfl⟩
    have hx' : rd l (j : Int) = v := hv0.symm
    rw [hx', Int.toNat_natCast] at hx
    have HG := Lib.hid hv0
    clear hv0 hx'
    by_cases h1 : 0 ≤ v
    ·by_cases h2 : v < f.f2
     ·have HS := Lib.hid ((runTo_succ HR.out).trans (show need (varOk f (l.getD j 0)) 13 = .ok () by rw [← HG.out, varOk, decide_eq_true (show 0 ≤ v ∧ v < f.f2 from ⟨h1, h2⟩)]; rfl))
      have d1 : decide (0 ≤ v) = true := decide_eq_true h1
      have d2 : decide (v < f.f2) = true := decide_eq_true h2
      go_wp2_with fail
      refine (must_yes a 13 wr h41).mono ?_
      rintro e w2 ⟨rfl, rfl⟩
      go_wp2_with fail
      go_roundw
      case rel => exact ⟨j + 1, by omega, by go_num, by trivial, HS.out⟩
      case measure => simp [intOf]; omega
     ·have HS := Lib.hid (runTo_err HR.out (show need (varOk f (l.getD j 0)) 13 = .error 13 by rw [← HG.out, varOk, decide_eq_false (show ¬ (0 ≤ v ∧ v < f.f2) from fun h => h2 h.2)]; rfl) hlt)
      have d1 : decide (0 ≤ v) = true := decide_eq_true h1
      have d2 : decide (v < f.f2) = false := decide_eq_false h2
      go_wp2_with fail
      refine (must_not a 13 wr h41).mono ?_
      rintro e w2 ⟨rfl, rfl⟩
      exact ⟨rfl, by rw [HL.out, HS.out]; rfl, HD.out⟩
    ·have HS := Lib.hid (runTo_err HR.out (show need (varOk f (l.getD j 0)) 13 = .error 13 by rw [← HG.out, varOk, decide_eq_false (show ¬ (0 ≤ v ∧ v < f.f2) from fun h => h1 h.1)]; rfl) hlt)
     have d1 : decide (0 ≤ v) = false := decide_eq_false h1
     go_wp2_with fail
     refine (must_not a 13 wr h41).mono ?_
     rintro e w2 ⟨rfl, rfl⟩
     exact ⟨rfl, by rw [HL.out, HS.out]; rfl, HD.out⟩
   ·obtain rfl : j = l.length := by omega
    go_wp2_with fail
    go_end0
    exact ⟨by rw [HL.out, HR.out]; rfl, HD.out⟩
 ·have hls : listQ f l m = .error 15 := by rw [listQ, if_neg hm]
  have HL := Lib.hid hls
  have HM := Lib.hid hm
  clear hls hm
  go_enter Tryz.func205, Tryz.ntmps205
  go_wp2_with fail
  refine (ofArgs_any p w).mono ?_
  rintro e w1 ⟨rfl, rfl⟩
  go_wp2_with fail
  refine HE.out.mono ?_
  rintro e w1 ⟨rfl, hd⟩
  have HD := Lib.hid hd
  have hb : ((l.length : Int) == m) = false := by simpa using HM.out
  clear hd
  go_wp2_with fail
  refine (must_not a 15 w1 (drawn_cell HD.out h4)).mono ?_
  rintro e w2 ⟨rfl, rfl⟩
  exact ⟨rfl, by rw [HL.out]; rfl, HD.out⟩
def IsAsk (w : World) : Part → Value → Prop
 | .R, v => ∃ c, v = .func (.func 198) #[] #[.pointer (some ⟨c, 0, none⟩)] ∧ w.cell? ⟨c, 0, none⟩ = some (.func (.func 171) #[] #[])
 | .S, v => ∃ c, v = .func (.func 198) #[] #[.pointer (some ⟨c, 0, none⟩)] ∧ w.cell? ⟨c, 0, none⟩ = some (.func (.func 172) #[] #[])
 | .T, v => ∃ c, v = .func (.func 198) #[] #[.pointer (some ⟨c, 0, none⟩)] ∧ w.cell? ⟨c, 0, none⟩ = some (.func (.func 173) #[] #[])
 | .i, v => v = .func (.func 175) #[] #[]
 | .c, v => ∃ b0 b1 b2, v = .func (.func 204) #[] #[.pointer (some ⟨b0, 0, none⟩), .pointer (some ⟨b1, 0, none⟩), .pointer (some ⟨b2, 0, none⟩)] ∧ w.cell? ⟨b0, 0, none⟩ = some (.int .i64 1) ∧ w.cell? ⟨b1, 0, none⟩ = some (.func (.func 177) #[] #[]) ∧ w.cell? ⟨b2, 0, none⟩ = some (.int .i64 17)
 | .f, v => ∃ b0 b1 b2, v = .func (.func 204) #[] #[.pointer (some ⟨b0, 0, none⟩), .pointer (some ⟨b1, 0, none⟩), .pointer (some ⟨b2, 0, none⟩)] ∧ w.cell? ⟨b0, 0, none⟩ = some (.int .i64 0) ∧ w.cell? ⟨b1, 0, none⟩ = some (.func (.func 178) #[] #[]) ∧ w.cell? ⟨b2, 0, none⟩ = some (.int .i64 17)
 | .g, v => ∃ b0 b1 b2, v = .func (.func 204) #[] #[.pointer (some ⟨b0, 0, none⟩), .pointer (some ⟨b1, 0, none⟩), .pointer (some ⟨b2, 0, none⟩)] ∧ w.cell? ⟨b0, 0, none⟩ = some (.int .i64 0) ∧ w.cell? ⟨b1, 0, none⟩ = some (.func (.func 179) #[] #[]) ∧ w.cell? ⟨b2, 0, none⟩ = some (.int .i64 18)
 | .F, v => ∃ b0 b1 b2, v = .func (.func 204) #[] #[.pointer (some ⟨b0, 0, none⟩), .pointer (some ⟨b1, 0, none⟩), .pointer (some ⟨b2, 0, none⟩)] ∧ w.cell? ⟨b0, 0, none⟩ = some (.int .i64 0) ∧ w.cell? ⟨b1, 0, none⟩ = some (.func (.func 180) #[] #[]) ∧ w.cell? ⟨b2, 0, none⟩ = some (.int .i64 14)
 | .J, v => ∃ b0 b1 b2, v = .func (.func 204) #[] #[.pointer (some ⟨b0, 0, none⟩), .pointer (some ⟨b1, 0, none⟩), .pointer (some ⟨b2, 0, none⟩)] ∧ w.cell? ⟨b0, 0, none⟩ = some (.int .i64 0) ∧ w.cell? ⟨b1, 0, none⟩ = some (.func (.func 181) #[] #[]) ∧ w.cell? ⟨b2, 0, none⟩ = some (.int .i64 16)
 | .A, v => ∃ b0 b1, v = .func (.func 205) #[] #[.pointer (some ⟨b0, 0, none⟩), .pointer (some ⟨b1, 0, none⟩)] ∧ w.cell? ⟨b0, 0, none⟩ = some (.func (.func 183) #[] #[]) ∧ w.cell? ⟨b1, 0, none⟩ = some (.func (.func 184) #[] #[])
 | .B, v => ∃ b0 b1, v = .func (.func 205) #[] #[.pointer (some ⟨b0, 0, none⟩), .pointer (some ⟨b1, 0, none⟩)] ∧ w.cell? ⟨b0, 0, none⟩ = some (.func (.func 185) #[] #[]) ∧ w.cell? ⟨b1, 0, none⟩ = some (.func (.func 186) #[] #[])
 | .V, v => ∃ b0 b1, v = .func (.func 205) #[] #[.pointer (some ⟨b0, 0, none⟩), .pointer (some ⟨b1, 0, none⟩)] ∧ w.cell? ⟨b0, 0, none⟩ = some (.func (.func 183) #[] #[]) ∧ w.cell? ⟨b1, 0, none⟩ = some (.func (.func 187) #[] #[])
theorem IsAsk.of {w w1 : World} {p : Part} {v : Value} (h : IsAsk w p v) (hc : ∀ a u, w.cell? a = some u → w1.cell? a = some u) : IsAsk w1 p v := by
 cases p
 case R | S | T => exact h.imp fun c h => ⟨h.1, hc _ _ h.2⟩
 case i => exact h
 case c | f | g | F | J => obtain ⟨b0, b1, b2, h1, h2, h3, h4⟩ := h; exact ⟨b0, b1, b2, h1, hc _ _ h2, hc _ _ h3, hc _ _ h4⟩
 case A | B | V => obtain ⟨b0, b1, h1, h2, h3⟩ := h; exact ⟨b0, b1, h1, hc _ _ h2, hc _ _ h3⟩
structure RowAt (w : World) (g : Nat) (ps : List Part) : Prop where mk ::
 at_ : ∀ j, j < ps.length → ∃ fa ca fp cp ft ct, w.cell? ⟨g, j * 4, none⟩ = some (.int .i64 (ps.getD j .i).mask) ∧ w.cell? ⟨g, j * 4 + 1, none⟩ = some (.func fa #[] ca) ∧ w.cell? ⟨g, j * 4 + 2, none⟩ = some (.func fp #[] cp) ∧ w.cell? ⟨g, j * 4 + 3, none⟩ = some (.func ft #[] ct) ∧ IsAsk w (ps.getD j .i) (.func fa #[] ca)
theorem RowAt.of {w w1 : World} {g : Nat} {ps : List Part} (h : RowAt w g ps) (hc : ∀ a u, w.cell? a = some u → w1.cell? a = some u) : RowAt w1 g ps :=
 ⟨fun j hj => by obtain ⟨a, a', p, p', t, t', h1, h2, h3, h4, h5⟩ := h.at_ j hj; exact ⟨a, a', p, p', t, t', hc _ _ h1, hc _ _ h2, hc _ _ h3, hc _ _ h4, h5.of hc⟩⟩
theorem below_cells {w w1 : World} (h : Below w.heap.size w w1) (a : Addr) (u : Value) (hc : w.cell? a = some u) : w1.cell? a = some u := (h.cell (World.block_lt_of_cell? w a hc)).trans hc
theorem under_six : Tryz.prog.underlying 256 = some (.array 6 4) := by kernel_rfl
theorem size_bool : Tryz.t4.size = 1 := by kernel_rfl
theorem six0 (y1 y2 y3 y4 y5 y6 : Bool) (w : World) : (Instr.index 256 (.agg #[.bool y1, .bool y2, .bool y3, .bool y4, .bool y5, .bool y6]) (.int .i64 0)).run Tryz.prog w = .ok (.bool y1) w := by
 simp [Instr.index, run_underlying under_six, asIntOf, go_sem, part, sizeOf, size_bool]
theorem six1 (y1 y2 y3 y4 y5 y6 : Bool) (w : World) : (Instr.index 256 (.agg #[.bool y1, .bool y2, .bool y3, .bool y4, .bool y5, .bool y6]) (.int .i64 1)).run Tryz.prog w = .ok (.bool y2) w := by
 simp [Instr.index, run_underlying under_six, asIntOf, go_sem, part, sizeOf, size_bool]
theorem six2 (y1 y2 y3 y4 y5 y6 : Bool) (w : World) : (Instr.index 256 (.agg #[.bool y1, .bool y2, .bool y3, .bool y4, .bool y5, .bool y6]) (.int .i64 2)).run Tryz.prog w = .ok (.bool y3) w := by
 simp [Instr.index, run_underlying under_six, asIntOf, go_sem, part, sizeOf, size_bool]
theorem six3 (y1 y2 y3 y4 y5 y6 : Bool) (w : World) : (Instr.index 256 (.agg #[.bool y1, .bool y2, .bool y3, .bool y4, .bool y5, .bool y6]) (.int .i64 3)).run Tryz.prog w = .ok (.bool y4) w := by
 simp [Instr.index, run_underlying under_six, asIntOf, go_sem, part, sizeOf, size_bool]
theorem six4 (y1 y2 y3 y4 y5 y6 : Bool) (w : World) : (Instr.index 256 (.agg #[.bool y1, .bool y2, .bool y3, .bool y4, .bool y5, .bool y6]) (.int .i64 4)).run Tryz.prog w = .ok (.bool y5) w := by
 simp [Instr.index, run_underlying under_six, asIntOf, go_sem, part, sizeOf, size_bool]
theorem six5 (y1 y2 y3 y4 y5 y6 : Bool) (w : World) : (Instr.index 256 (.agg #[.bool y1, .bool y2, .bool y3, .bool y4, .bool y5, .bool y6]) (.int .i64 5)).run Tryz.prog w = .ok (.bool y6) w := by
 simp [Instr.index, run_underlying under_six, asIntOf, go_sem, part, sizeOf, size_bool]
set_option maxRecDepth 100000 in
set_option maxHeartbeats 1600000 in
theorem plain_any (g : Nat) (ps : List Part) (c : Nat) (p : Addr) (x : Ins) (A5 : Option Addr) (c5 : Nat) (A6 : Option Addr) (c6 : Nat) (w : World) (hr : RowAt w g ps) (hn : ps.length ≤ 3)
  (e1 : w.cell? ⟨p.block, p.off + 1, none⟩ = some (.int .i64 x.f1)) (e2 : w.cell? ⟨p.block, p.off + 2, none⟩ = some (.int .i64 x.f2)) (e3 : w.cell? ⟨p.block, p.off + 3, none⟩ = some (.int .i64 x.f3)) (e4 : w.cell? ⟨p.block, p.off + 4, none⟩ = some (.int .i64 x.f4))
  (e5 : w.cell? ⟨p.block, p.off + 5, none⟩ = some (.slice A5 x.f5.length c5)) (e6 : w.cell? ⟨p.block, p.off + 6, none⟩ = some (.slice A6 x.f6.length c6)) :
  Calls Tryz.prog 189 #[.slice (some ⟨g, 0, none⟩) ps.length c, .pointer (some p)] w fun e w' => e = .returned (.bool (plainB ps x)) ∧ Below w.heap.size w w' := by
 have HR := Lib.hid hr
 have E := Lib.hid (And.intro e1 (And.intro e2 (And.intro e3 (And.intro e4 (And.intro e5 e6)))))
 clear hr e1 e2 e3 e4 e5 e6
 go_enter Tryz.func189, Tryz.ntmps189
 go_wp2_with fail
 go_loopw [5, 13] (fun m i wr => ∃ j : Nat, j ≤ ps.length ∧ i = .int .i64 j ∧ m = .int .i64 (maskTo ps j) ∧ Below w.heap.size w wr) (fun _ i _ => ps.length - (intOf i).toNat)
 case atStart => exact ⟨0, by omega, rfl, rfl, Below.refl _ _⟩
 case round =>
  obtain ⟨j, hj, rfl, rfl, hB⟩ := hrel
  have HB := Lib.hid hB
  clear hB
  by_cases hlt : j < ps.length
  ·obtain ⟨fa, ca, fp, cp, ft, ct, k1, k2, k3, k4, k5⟩ := (HR.out.of (below_cells HB.out)).at_ j hlt
   have KI := Lib.hid k5
   clear k5
   obtain ⟨mk, hmk⟩ : ∃ mk, mk = (ps.getD j .i).mask := ⟨_, rfl⟩
   rw [← hmk] at k1
   have HM := Lib.hid hmk
   clear hmk
   go_wp2_with fail
   go_roundw
   case rel => exact ⟨j + 1, by omega, by go_num, by rw [maskTo, ← HM.out], HB.out.trans (Below.alloc (Below.refl _ _) HB.out.size _)⟩
   case measure => simp [intOf]; omega
  ·obtain rfl : j = ps.length := by omega
   obtain ⟨e1, e2, e3, e4, e5, e6⟩ := E.out
   have b1 := below_cells HB.out _ _ e1
   have b2 := below_cells HB.out _ _ e2
   have b3 := below_cells HB.out _ _ e3
   have b4 := below_cells HB.out _ _ e4
   have b5 := below_cells HB.out _ _ e5
   have b6 := below_cells HB.out _ _ e6
   clear e1 e2 e3 e4 e5 e6
   have hus : used x = [x.f1 != 0, x.f2 != 0, x.f3 != 0, x.f4 != 0, decide (0 < x.f5.length), decide (0 < x.f6.length)] := rfl
   generalize x.f5.length = n5 at b5 hus
   generalize x.f6.length = n6 at b6 hus
   have HU := Lib.hid hus
   clear hus
   go_wp2_with fail
   go_quiet (fail)
   go_wp2_with fail
   have hus := HU.out
   generalize (x.f1 != 0) = y1 at hus ⊢
   generalize (x.f2 != 0) = y2 at hus ⊢
   generalize (x.f3 != 0) = y3 at hus ⊢
   generalize (x.f4 != 0) = y4 at hus ⊢
   generalize decide (0 < n5) = y5 at hus ⊢
   generalize decide (0 < n6) = y6 at hus ⊢
   clear HU
   have HU := Lib.hid hus
   have HB1 := Lib.hid (pw_below_drewN HB.out nq)
   clear hus b1 b2 b3 b4 b5 b6 HB
   go_loopw [8, 55] (fun m i wr => ∃ j : Nat, j ≤ 6 ∧ i = .int .i64 j ∧ m = .int .i64 (usedTo [y1, y2, y3, y4, y5, y6] j) ∧ Below w.heap.size w wr) (fun _ i _ => 6 - (intOf i).toNat)
   case atStart => exact ⟨0, by omega, rfl, rfl, HB1.out⟩
   case round =>
    obtain ⟨j, hj, rfl, rfl, hB⟩ := hrel
    have HB := Lib.hid hB
    clear hB HB1
    have hj' : j = 0 ∨ j = 1 ∨ j = 2 ∨ j = 3 ∨ j = 4 ∨ j = 5 ∨ j = 6 := by omega
    clear hj
    rcases hj' with rfl | rfl | rfl | rfl | rfl | rfl | rfl
    ·have hi := six0 y1 y2 y3 y4 y5 y6
     cases y1
     ·go_wp2_with fail
      go_roundw
      case rel => exact ⟨1, by omega, rfl, rfl, HB.out⟩
      case measure => decide
     ·go_wp2_with fail
      go_roundw
      case rel => exact ⟨1, by omega, rfl, rfl, HB.out⟩
      case measure => decide
    ·have hi := six1 y1 y2 y3 y4 y5 y6
     cases y2
     ·go_wp2_with fail
      go_roundw
      case rel => exact ⟨2, by omega, rfl, rfl, HB.out⟩
      case measure => decide
     ·go_wp2_with fail
      go_roundw
      case rel => exact ⟨2, by omega, rfl, rfl, HB.out⟩
      case measure => decide
    ·have hi := six2 y1 y2 y3 y4 y5 y6
     cases y3
     ·go_wp2_with fail
      go_roundw
      case rel => exact ⟨3, by omega, rfl, rfl, HB.out⟩
      case measure => decide
     ·go_wp2_with fail
      go_roundw
      case rel => exact ⟨3, by omega, rfl, rfl, HB.out⟩
      case measure => decide
    ·have hi := six3 y1 y2 y3 y4 y5 y6
     cases y4
     ·go_wp2_with fail
      go_roundw
      case rel => exact ⟨4, by omega, rfl, rfl, HB.out⟩
      case measure => decide
     ·go_wp2_with fail
      go_roundw
      case rel => exact ⟨4, by omega, rfl, rfl, HB.out⟩
      case measure => decide
    ·have hi := six4 y1 y2 y3 y4 y5 y6
     cases y5
     ·go_wp2_with fail
      go_roundw
      case rel => exact ⟨5, by omega, rfl, rfl, HB.out⟩
      case measure => decide
     ·go_wp2_with fail
      go_roundw
      case rel => exact ⟨5, by omega, rfl, rfl, HB.out⟩
      case measure => decide
    ·have hi := six5 y1 y2 y3 y4 y5 y6
     cases y6
     ·go_wp2_with fail
      go_roundw
      case rel => exact ⟨6, by omega, rfl, rfl, HB.out⟩
      case measure => decide
     ·go_wp2_with fail
      go_roundw
      case rel => exact ⟨6, by omega, rfl, rfl, HB.out⟩
      case measure => decide
    ·go_wp2_with fail
     go_ret
     exact ⟨by rw [plainB, HU.out]; rfl, HB.out⟩
structure Kept (a : Nat) (w w' : World) : Prop where
 os : w'.os = w.os
 tape : w'.tape = w.tape
 output : w'.output = w.output
 size : w.heap.size ≤ w'.heap.size
 block : ∀ k, k < w.heap.size → k ≠ a → w'.heap[k]? = w.heap[k]?
theorem Kept.of_below {a : Nat} {w w' : World} (h : Below w.heap.size w w') : Kept a w w' := ⟨h.os, h.tape, h.output, h.size, fun k hk _ => h.block k hk⟩
theorem Kept.set {a : Nat} (w : World) (i : Nat) (u : Value) : Kept a w (w.setCell ⟨a, i, none⟩ u) := ⟨rfl, rfl, rfl, by simp [World.setCell], fun k _ hk => Below.heap_setCell w ⟨a, i, none⟩ u k hk⟩
theorem Kept.drewN {a : Nat} {w w' : World} (h : Kept a w w') (n : Nat) : Kept a w (w'.drewN n) := ⟨h.os, h.tape, h.output, h.size, h.block⟩
theorem Kept.trans {a : Nat} {w w1 w2 : World} (h : Kept a w w1) (k : Kept a w1 w2) : Kept a w w2 :=
 ⟨k.os.trans h.os, k.tape.trans h.tape, k.output.trans h.output, Nat.le_trans h.size k.size, fun i hi hn => (k.block i (Nat.lt_of_lt_of_le hi h.size) hn).trans (h.block i hi hn)⟩
theorem Kept.below {a B : Nat} {w0 w w' : World} (h : Kept a w w') (hb : Below B w0 w) (hB : B ≤ w0.heap.size) (ha : B ≤ a) : Below B w0 w' :=
 ⟨h.os.trans hb.os, h.tape.trans hb.tape, h.output.trans hb.output, Nat.le_trans hb.size h.size, fun k hk => (h.block k (by have := hb.size; omega) (by omega)).trans (hb.block k hk)⟩
theorem Kept.cell {a : Nat} {w w' : World} (h : Kept a w w') {p : Addr} {v : Value} (hc : w.cell? p = some v) (hp : p.block ≠ a) : w'.cell? p = some v := by
 have := h.block p.block (World.block_lt_of_cell? w p hc) hp
 rw [World.cell?, this]
 exact hc
def AskerAt (w : World) (a : Nat) (v0 v1 v2 : Value) (l : Int) : Prop := w.heap[a]? = some (.cells #[v0, v1, v2, .int .i64 l, .int .i64 0] 199 (0, 0))
def locs (w : World) (a : Nat) (v0 v1 v2 : Value) (r : Except Int Int) (e : Ending) (w' : World) : Prop :=
 e = ends r ∧ Kept a w w' ∧ ∀ m, r = .ok m → AskerAt w' a v0 v1 v2 m
set_option maxRecDepth 100000 in
set_option maxHeartbeats 1600000 in
theorem head_any (a : Nat) (q : Addr) (n l : Int) (f : Fun) (w : World) (v0 v1 v2 : Value) (hb : w.heap[a]? = some (.cells #[v0, v1, v2, .int .i64 l, .int .i64 0] 199 (0, 0)))
  (e0 : w.cell? q = some (.int .i64 f.f0)) (e1 : w.cell? ⟨q.block, q.off + 1, none⟩ = some (.int .i64 f.f1)) (e2 : w.cell? ⟨q.block, q.off + 2, none⟩ = some (.int .i64 f.f2)) (hqa : q.block ≠ a) (hl : 0 ≤ l ∧ l < 1048576) :
  Calls Tryz.prog 144 #[.pointer (some ⟨a, 0, none⟩), .pointer (some q), .int .i64 n] w (locs w a v0 v1 v2 (headQ l f n)) := by
 have c3 := blk_cell hb 3
 have c4 := blk_cell hb 4
 have hz := blk_frozen hb 3
 simp only [List.getElem?_toArray, List.getElem?_cons_succ, List.getElem?_cons_zero] at c3 c4
 obtain ⟨mn, hmn⟩ : ∃ mn, (if f.f2 < 8 then f.f2 else 8) = mn := ⟨_, rfl⟩
 have HM := Lib.hid hmn
 have H0 := Lib.hid (show headQ l f n = if 0 ≤ f.f0 ∧ f.f0 ≤ mn ∧ 0 ≤ f.f1 ∧ f.f1 ≤ 4 ∧ f.f2 ≤ 255 ∧ n ≤ 4096 then if 1 ≤ n then if l + f.f2 < 1048576 then .ok (l + f.f2) else .error 21 else .error 19 else .error 20 by rw [headQ, hmn])
 by_cases h1 : 0 ≤ f.f0
 ·by_cases h2 : f.f0 ≤ mn
  ·by_cases h3 : 0 ≤ f.f1
   ·by_cases h4 : f.f1 ≤ 4
    ·by_cases h5 : f.f2 ≤ 255
     ·by_cases h6 : n ≤ 4096
      ·have d1 : decide (0 ≤ f.f0) = true := decide_eq_true h1
       have d2 : decide (f.f0 ≤ mn) = true := decide_eq_true h2
       have d3 : decide (0 ≤ f.f1) = true := decide_eq_true h3
       have d4 : decide (f.f1 ≤ 4) = true := decide_eq_true h4
       have d5 : decide (f.f2 ≤ 255) = true := decide_eq_true h5
       have d6 : decide (n ≤ 4096) = true := decide_eq_true h6
       have h9 : 0 ≤ f.f2 := by have := HM.out; split at this <;> omega
       by_cases h7 : 1 ≤ n
       ·have d7 : decide (1 ≤ n) = true := decide_eq_true h7
        by_cases h8 : l + f.f2 < 1048576
        ·have d8 : decide (l + f.f2 < 1048576) = true := decide_eq_true h8
         have HQ := Lib.hid (show headQ l f n = .ok (l + f.f2) by rw [H0.out, if_pos ⟨h1, h2, h3, h4, h5, h6⟩, if_pos h7, if_pos h8])
         go_enter Tryz.func144, Tryz.ntmps144
         go_wp2_with fail
         go_quiet (fail)
         go_wp2_with fail
         refine (must_yes a 20 (w.drewN nq) c4).mono ?_
         rintro e w1 ⟨rfl, rfl⟩
         go_wp2_with fail
         refine (must_yes a 19 (w.drewN nq) c4).mono ?_
         rintro e w1 ⟨rfl, rfl⟩
         go_wp2_with fail
         have hw : IntKind.i64.wrap (l + f.f2) = l + f.f2 := by rw [IntKind.wrap_i64]; omega
         have hb2 := blk_put (w := w.drewN (nq + 1)) hb 3 (.int .i64 (l + f.f2)) rfl
         have k3 := blk_cell hb2 3
         have k4 := blk_cell hb2 4
         simp only [List.getElem?_toArray, List.getElem?_cons_succ, List.getElem?_cons_zero, List.setIfInBounds_toArray, List.set_cons_succ, List.set_cons_zero] at k3 k4
         go_region_with (fail)
         all_goals (
          go_wp2_with fail
          refine (must_yes a 21 ((w.drewN (nq + 1)).setCell ⟨a, 3, none⟩ (.int .i64 (l + f.f2))) k4).mono ?_
          rintro e w1 ⟨rfl, rfl⟩
          go_wp2_with fail
          go_end0
          exact ⟨by rw [HQ.out]; rfl, ((Kept.of_below (Below.refl _ _)).drewN (nq + 1)).trans (Kept.set _ _ _), fun m hm => by rw [HQ.out] at hm; injection hm with hm; subst hm; exact hb2⟩)
        ·have d8 : decide (l + f.f2 < 1048576) = false := decide_eq_false h8
         have HQ := Lib.hid (show headQ l f n = .error 21 by rw [H0.out, if_pos ⟨h1, h2, h3, h4, h5, h6⟩, if_pos h7, if_neg h8])
         go_enter Tryz.func144, Tryz.ntmps144
         go_wp2_with fail
         go_quiet (fail)
         go_wp2_with fail
         refine (must_yes a 20 (w.drewN nq) c4).mono ?_
         rintro e w1 ⟨rfl, rfl⟩
         go_wp2_with fail
         refine (must_yes a 19 (w.drewN nq) c4).mono ?_
         rintro e w1 ⟨rfl, rfl⟩
         go_wp2_with fail
         have hw : IntKind.i64.wrap (l + f.f2) = l + f.f2 := by rw [IntKind.wrap_i64]; omega
         have hb2 := blk_put (w := w.drewN (nq + 1)) hb 3 (.int .i64 (l + f.f2)) rfl
         have k3 := blk_cell hb2 3
         have k4 := blk_cell hb2 4
         simp only [List.getElem?_toArray, List.getElem?_cons_succ, List.getElem?_cons_zero, List.setIfInBounds_toArray, List.set_cons_succ, List.set_cons_zero] at k3 k4
         go_region_with (fail)
         all_goals (
          go_wp2_with fail
          refine (must_not a 21 ((w.drewN (nq + 1)).setCell ⟨a, 3, none⟩ (.int .i64 (l + f.f2))) k4).mono ?_
          rintro e w1 ⟨rfl, rfl⟩
          exact ⟨rfl, by rw [HQ.out]; rfl, ((Kept.of_below (Below.refl _ _)).drewN (nq + 1)).trans (Kept.set _ _ _), fun m hm => by rw [HQ.out] at hm; cases hm⟩)
       ·have d7 : decide (1 ≤ n) = false := decide_eq_false h7
        have HQ := Lib.hid (show headQ l f n = .error 19 by rw [H0.out, if_pos ⟨h1, h2, h3, h4, h5, h6⟩, if_neg h7])
        go_enter Tryz.func144, Tryz.ntmps144
        go_wp2_with fail
        go_quiet (fail)
        go_wp2_with fail
        refine (must_yes a 20 (w.drewN nq) c4).mono ?_
        rintro e w1 ⟨rfl, rfl⟩
        go_wp2_with fail
        refine (must_not a 19 (w.drewN nq) c4).mono ?_
        rintro e w1 ⟨rfl, rfl⟩
        exact ⟨rfl, by rw [HQ.out]; rfl, (Kept.of_below (Below.refl _ _)).drewN _, fun m hm => by rw [HQ.out] at hm; cases hm⟩
      ·have HQ := Lib.hid (show headQ l f n = .error 20 by rw [H0.out, if_neg (fun h => h6 h.2.2.2.2.2)])
       have d1 : decide (0 ≤ f.f0) = true := decide_eq_true h1
       have d2 : decide (f.f0 ≤ mn) = true := decide_eq_true h2
       have d3 : decide (0 ≤ f.f1) = true := decide_eq_true h3
       have d4 : decide (f.f1 ≤ 4) = true := decide_eq_true h4
       have d5 : decide (f.f2 ≤ 255) = true := decide_eq_true h5
       have d6 : decide (n ≤ 4096) = false := decide_eq_false h6
       go_enter Tryz.func144, Tryz.ntmps144
       go_wp2_with fail
       go_quiet (fail)
       go_wp2_with fail
       refine (must_not a 20 (w.drewN nq) c4).mono ?_
       rintro e w1 ⟨rfl, rfl⟩
       exact ⟨rfl, by rw [HQ.out]; rfl, (Kept.of_below (Below.refl _ _)).drewN _, fun m hm => by rw [HQ.out] at hm; cases hm⟩
     ·have HQ := Lib.hid (show headQ l f n = .error 20 by rw [H0.out, if_neg (fun h => h5 h.2.2.2.2.1)])
      have d1 : decide (0 ≤ f.f0) = true := decide_eq_true h1
      have d2 : decide (f.f0 ≤ mn) = true := decide_eq_true h2
      have d3 : decide (0 ≤ f.f1) = true := decide_eq_true h3
      have d4 : decide (f.f1 ≤ 4) = true := decide_eq_true h4
      have d5 : decide (f.f2 ≤ 255) = false := decide_eq_false h5
      go_enter Tryz.func144, Tryz.ntmps144
      go_wp2_with fail
      go_quiet (fail)
      go_wp2_with fail
      refine (must_not a 20 (w.drewN nq) c4).mono ?_
      rintro e w1 ⟨rfl, rfl⟩
      exact ⟨rfl, by rw [HQ.out]; rfl, (Kept.of_below (Below.refl _ _)).drewN _, fun m hm => by rw [HQ.out] at hm; cases hm⟩
    ·have HQ := Lib.hid (show headQ l f n = .error 20 by rw [H0.out, if_neg (fun h => h4 h.2.2.2.1)])
     have d1 : decide (0 ≤ f.f0) = true := decide_eq_true h1
     have d2 : decide (f.f0 ≤ mn) = true := decide_eq_true h2
     have d3 : decide (0 ≤ f.f1) = true := decide_eq_true h3
     have d4 : decide (f.f1 ≤ 4) = false := decide_eq_false h4
     go_enter Tryz.func144, Tryz.ntmps144
     go_wp2_with fail
     go_quiet (fail)
     go_wp2_with fail
     refine (must_not a 20 (w.drewN nq) c4).mono ?_
     rintro e w1 ⟨rfl, rfl⟩
     exact ⟨rfl, by rw [HQ.out]; rfl, (Kept.of_below (Below.refl _ _)).drewN _, fun m hm => by rw [HQ.out] at hm; cases hm⟩
   ·have HQ := Lib.hid (show headQ l f n = .error 20 by rw [H0.out, if_neg (fun h => h3 h.2.2.1)])
    have d1 : decide (0 ≤ f.f0) = true := decide_eq_true h1
    have d2 : decide (f.f0 ≤ mn) = true := decide_eq_true h2
    have d3 : decide (0 ≤ f.f1) = false := decide_eq_false h3
    go_enter Tryz.func144, Tryz.ntmps144
    go_wp2_with fail
    go_quiet (fail)
    go_wp2_with fail
    refine (must_not a 20 (w.drewN nq) c4).mono ?_
    rintro e w1 ⟨rfl, rfl⟩
    exact ⟨rfl, by rw [HQ.out]; rfl, (Kept.of_below (Below.refl _ _)).drewN _, fun m hm => by rw [HQ.out] at hm; cases hm⟩
  ·have HQ := Lib.hid (show headQ l f n = .error 20 by rw [H0.out, if_neg (fun h => h2 h.2.1)])
   have d1 : decide (0 ≤ f.f0) = true := decide_eq_true h1
   have d2 : decide (f.f0 ≤ mn) = false := decide_eq_false h2
   go_enter Tryz.func144, Tryz.ntmps144
   go_wp2_with fail
   go_quiet (fail)
   go_wp2_with fail
   refine (must_not a 20 (w.drewN nq) c4).mono ?_
   rintro e w1 ⟨rfl, rfl⟩
   exact ⟨rfl, by rw [HQ.out]; rfl, (Kept.of_below (Below.refl _ _)).drewN _, fun m hm => by rw [HQ.out] at hm; cases hm⟩
 ·have HQ := Lib.hid (show headQ l f n = .error 20 by rw [H0.out, if_neg (fun h => h1 h.1)])
  have d1 : decide (0 ≤ f.f0) = false := decide_eq_false h1
  go_enter Tryz.func144, Tryz.ntmps144
  go_wp2_with fail
  go_quiet (fail)
  go_wp2_with fail
  refine (must_not a 20 (w.drewN nq) c4).mono ?_
  rintro e w1 ⟨rfl, rfl⟩
  exact ⟨rfl, by rw [HQ.out]; rfl, (Kept.of_below (Below.refl _ _)).drewN _, fun m hm => by rw [HQ.out] at hm; cases hm⟩
theorem kept_two {a : Nat} {w w2 : World} (h : Below w.drew.drew.heap.size w.drew.drew w2) : Kept a w w2 := Kept.trans (w1 := w.drew.drew) ((Kept.of_below (Below.refl _ _)).drewN 2) (Kept.of_below h)
structure InsAt (w : World) (p : Addr) (x : Ins) (A5 : Option Addr) (c5 : Nat) (A6 : Option Addr) (c6 : Nat) : Prop where mk ::
 e0 : w.cell? p = some (.int .i64 x.f0)
 e1 : w.cell? ⟨p.block, p.off + 1, none⟩ = some (.int .i64 x.f1)
 e2 : w.cell? ⟨p.block, p.off + 2, none⟩ = some (.int .i64 x.f2)
 e3 : w.cell? ⟨p.block, p.off + 3, none⟩ = some (.int .i64 x.f3)
 e4 : w.cell? ⟨p.block, p.off + 4, none⟩ = some (.int .i64 x.f4)
 e5 : w.cell? ⟨p.block, p.off + 5, none⟩ = some (.slice A5 x.f5.length c5)
 e6 : w.cell? ⟨p.block, p.off + 6, none⟩ = some (.slice A6 x.f6.length c6)
theorem InsAt.of {w w1 : World} {p : Addr} {x : Ins} {A5 c5 A6 c6} (h : InsAt w p x A5 c5 A6 c6) (hc : ∀ i u, w.cell? ⟨p.block, i, none⟩ = some u → w1.cell? ⟨p.block, i, none⟩ = some u) (h0 : ∀ u, w.cell? p = some u → w1.cell? p = some u) : InsAt w1 p x A5 c5 A6 c6 :=
 ⟨h0 _ h.e0, hc _ _ h.e1, hc _ _ h.e2, hc _ _ h.e3, hc _ _ h.e4, hc _ _ h.e5, hc _ _ h.e6⟩
structure TableAt (w : World) (tg : Nat) : Prop where mk ::
 at_ : ∀ k, 1 ≤ k → k < 18 → ∃ g c, w.cell? ⟨tg, k, none⟩ = some (.slice (some ⟨g, 0, none⟩) (table.getD k []).length c) ∧ RowAt w g (table.getD k [])
theorem TableAt.of {w w1 : World} {tg : Nat} (h : TableAt w tg) (hc : ∀ a u, w.cell? a = some u → w1.cell? a = some u) : TableAt w1 tg :=
 ⟨fun k h0 hk => by obtain ⟨g, c, h1, h2⟩ := h.at_ k h0 hk; exact ⟨g, c, hc _ _ h1, h2.of hc⟩⟩
theorem table_short (k : Nat) : (table.getD k []).length ≤ 3 := by
 by_cases h : k < 18
 ·revert k; decide
 ·rw [List.getD_eq_getElem?_getD, List.getElem?_eq_none (by show table.length ≤ k; have : table.length = 18 := rfl; omega)]; simp
set_option maxRecDepth 100000 in
set_option maxHeartbeats 1600000 in
theorem op_not (a : Nat) (p : Addr) (last : Bool) (l : Int) (x : Ins) (A5 : Option Addr) (c5 : Nat) (A6 : Option Addr) (c6 : Nat) (w : World) (v0 v1 : Value) (tg tc : Nat) (hb : AskerAt w a v0 v1 (.slice (some ⟨tg, 0, none⟩) 18 tc) l) (hx : InsAt w p x A5 c5 A6 c6) (ho : ¬ (1 ≤ x.f0 ∧ x.f0 < 18)) :
  Calls Tryz.prog 145 #[.pointer (some ⟨a, 0, none⟩), .pointer (some p), .bool last] w (locs w a v0 v1 (.slice (some ⟨tg, 0, none⟩) 18 tc) (opQ l x last)) := by
 have HQ := Lib.hid (show opQ l x last = .error 12 by rw [opQ, if_neg ho])
 have c2 := blk_cell hb 2
 have c4 := blk_cell hb 4
 have e0 := hx.e0
 simp only [List.getElem?_toArray, List.getElem?_cons_succ, List.getElem?_cons_zero] at c2 c4
 by_cases h1 : 1 ≤ x.f0
 ·have h2 : ¬ x.f0 < 18 := fun h => ho ⟨h1, h⟩
  have d1 : decide (1 ≤ x.f0) = true := decide_eq_true h1
  have d2 : decide (x.f0 < 18) = false := decide_eq_false h2
  clear h1 h2 ho
  go_enter Tryz.func145, Tryz.ntmps145
  go_wp2_with fail
  refine wp_region_still_tail 18 (by kernel_rfl) (by kernel_rfl) ?_
  change wpStill _ _ w.drew (fun a' => wpList _ _ _ _ a' w.drew) _ _
  simp only [List.take_succ_cons, List.take_zero, List.drop_succ_cons, List.drop_zero]
  repeat still_step
  refine wpStill_nil ?_
  go_wp2_with fail
  refine (must_not a 12 w.drew c4).mono ?_
  rintro e w1 ⟨rfl, rfl⟩
  exact ⟨rfl, by rw [HQ.out]; rfl, (Kept.of_below (Below.refl _ _)).drewN 1, fun m hm => by rw [HQ.out] at hm; cases hm⟩
 ·obtain ⟨F, hF⟩ : ∃ F : Bool, F = false := ⟨_, rfl⟩
  have d1 : decide (1 ≤ x.f0) = F := (decide_eq_false h1).trans hF.symm
  have hF' := Lib.hid (show ¬ F = true by rw [hF]; decide)
  clear h1 hF ho
  go_enter Tryz.func145, Tryz.ntmps145
  go_wp2_with fail
  refine wp_region_still_tail 18 (by kernel_rfl) (by kernel_rfl) ?_
  change wpStill _ _ w.drew (fun a' => wpList _ _ _ _ a' w.drew) _ _
  simp only [List.take_succ_cons, List.take_zero, List.drop_succ_cons, List.drop_zero]
  repeat (refine wpStill_step (fun K hK => ?_); go_simp; (try rw [if_neg hF'.out]); refine hK _ ?_; clear hK K)
  refine wpStill_nil ?_
  go_wp2_with fail
  refine (must_not a 12 w.drew c4).mono ?_
  rintro e w1 ⟨rfl, rfl⟩
  exact ⟨rfl, by rw [HQ.out]; rfl, (Kept.of_below (Below.refl _ _)).drewN 1, fun m hm => by rw [HQ.out] at hm; cases hm⟩
end Go.Proofs.YtcbcacbbnojdjaaGreatDoor
