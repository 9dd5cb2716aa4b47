/-
 Part P of what the law's proof needs: walks of the program's functions and the plain laws of what they tell. No condition.
-/
import Derived.Test.YtcbcacbbnojdjaaGreatDoorMgK
import Derived.Test.YtcbcacbbnojdjaaGreatDoorMgL
import Derived.Test.YtcbcacbbnojdjaaGreatDoorMgM
import Derived.Test.YtcbcacbbnojdjaaGreatDoorMgB
import Derived.Deep.AppendLies
import Derived.Deep.RegionHeld3
namespace Go.Proofs.YtcbcacbbnojdjaaGreatDoor
open Go.RowKit Go.Proofs.YtcbcacbbnojdjaaGreatDoorW.PrintWords Go.Proofs.YtcbcacbbnojdjaaGreatDoor.PSolveFunctions
set_option linter.unusedVariables false
set_option linter.unusedSimpArgs false
structure FunOk (G : Int) (fs : List Fun) (f : Fun) : Prop where
 G0 : 0 ≤ G ∧ G ≤ 16
 hd : HeadOk f
 ins : ∀ k, k < f.f3.length → InsGood G fs f (f.f3.getD k zI) (decide (k + 1 = f.f3.length))
 cal : ∀ k, k < f.f3.length → (f.f3.getD k zI).f0 = 11 → HeadOk (headF (fs.getD (f.f3.getD k zI).f4.toNat zF))
theorem FunOk.into {G : Int} {fs : List Fun} {f : Fun} (h : FunOk G fs f) (k : Nat) (hk : k < f.f3.length) (h11 : (f.f3.getD k zI).f0 = 11) : 0 ≤ (f.f3.getD k zI).f4 ∧ (f.f3.getD k zI).f4 < fs.length := by
 have h2 := (h.ins k hk).ps 0 (by rw [h11]; decide)
 rw [h11] at h2
 exact of_decide_eq_true (need_ok (b := decide (0 ≤ (f.f3.getD k zI).f4 ∧ (f.f3.getD k zI).f4 < fs.length)) (e := 14) h2)
theorem callsIn_at {n : Nat} {c : List Ins} (h : callsIn n c = true) (k : Nat) (hk : k < c.length) (h11 : (c.getD k zI).f0 = 11) : 0 ≤ (c.getD k zI).f4 ∧ (c.getD k zI).f4 < n := by
 unfold callsIn at h
 rw [List.all_eq_true] at h
 have h2 := h (c.getD k zI) (by rw [List.getD_eq_getElem?_getD, List.getElem?_eq_getElem hk]; exact List.getElem_mem hk)
 rw [h11] at h2
 simpa using h2
theorem plain_call_back (a b c d e f : Bool) (h : (bits .andNot .i64 (usedTo [a, b, c, true, e, f] 6) (maskTo [.F, .A, .B] 3) == 0) = true) : (bits .andNot .i64 (usedTo [a, b, c, d, e, f] 6) (maskTo [.F, .A, .B] 3) == 0) = true := by
 revert a b c d e f
 decide
theorem small_right {G : Int} {fs : List Fun} {f : Fun} (h : FunOk G fs f) : chk G (small fs f) = 0 := by
 have hH := h.hd
 have hI := h.ins
 have hn := hH.n1
 have hn0 := hH.n0
 have hcn := calls_news f.f3 f.f3.length
 obtain ⟨m, hm⟩ : ∃ m, (callees f).length = m := ⟨_, rfl⟩
 have hcn' : m + newsTo f.f3 f.f3.length ≤ f.f3.length := hm ▸ hcn
 have hlen : (small fs f).length = m + 1 := by rw [small_length, hm]
 have hcall : ∀ g ∈ callees f, 0 ≤ g ∧ g < fs.length := by
  intro g hg
  obtain ⟨k, hk, h11, rfl⟩ := (mem_callsTo _).1 hg
  have h2 := (hI k hk).ps 0 (by rw [h11]; decide)
  rw [h11] at h2
  have h3 : need (decide (0 ≤ (f.f3.getD k zI).f4 ∧ (f.f3.getD k zI).f4 < fs.length)) 14 = .ok () := h2
  unfold need at h3
  split at h3
  ·rename_i hd; exact of_decide_eq_true hd
  ·cases h3
 have hheads : ∀ k, k < m + 1 → HeadOk ((small fs f).getD k zF) := by
  intro k hk
  cases k with
  | zero => exact ⟨hH.p0, hH.p1, hH.r0, hH.r1, hH.v1, by simpa [small, ownF] using hn0, by simpa [small, ownF] using hn⟩
  | succ k =>
   have hk' : k < (callees f).length := by omega
   have he : (small fs f).getD (k + 1) zF = headF (fs.getD ((callees f)[k]).toNat zF) := by
    rw [small, List.getD_eq_getElem?_getD, List.getElem?_cons_succ, List.getElem?_map, List.getElem?_eq_getElem hk']
    rfl
   rw [he]
   obtain ⟨q, hq, h11, hg4⟩ := (mem_callsTo (c := f.f3) f.f3.length).1 (List.getElem_mem hk')
   rw [← hg4]
   exact h.cal q hq h11
 have hins : ∀ k, k < f.f3.length → InsGood G (small fs f) (ownF f) (numb (callees f) (f.f3.getD k zI)) (decide (k + 1 = f.f3.length)) := by
  intro k hk
  have hx := hI k hk
  have hmem : (f.f3.getD k zI).f0 = 11 → (f.f3.getD k zI).f4 ∈ callees f := fun h11 => (mem_callsTo _).2 ⟨k, hk, h11, rfl⟩
  generalize f.f3.getD k zI = x at hx hmem ⊢
  have hl2 : ((ownF f).f3.length : Int) = (f.f3.length : Int) := by simp [ownF]
  by_cases h11 : x.f0 = 11
  ·have hg := hmem h11
   have hlt := List.idxOf_lt_length_iff.2 hg
   have hnx : numb (callees f) x = ⟨x.f0, x.f1, x.f2, x.f3, ((callees f).idxOf x.f4 : Int) + 1, x.f5, x.f6⟩ := by unfold numb; rw [if_pos h11]
   have hpl := hx.pl
   have hps := hx.ps
   rw [h11] at hpl hps
   refine ⟨by rw [numb_f0]; exact hx.o0, ?_, by rw [numb_f0]; exact hx.la, ?_⟩
   ·rw [numb_f0, h11, hnx]
    have h2 := plain_call _ _ _ _ _ _ hpl
    have h3 : ((((callees f).idxOf x.f4 : Int) + 1) != 0) = true := by simp; omega
    unfold plainB used
    dsimp only
    rw [h3]
    exact h2
   ·intro j hj
    rw [numb_f0, h11] at hj ⊢
    have hj3 : j < 3 := hj
    have hF : need (decide (0 ≤ x.f4 ∧ x.f4 < fs.length)) 14 = .ok () := hps 0 (by decide)
    have hA : listQ f x.f5 (fs.getD x.f4.toNat zF).f0 = .ok () := hps 1 (by decide)
    have hB : listQ f x.f6 (fs.getD x.f4.toNat zF).f1 = .ok () := hps 2 (by decide)
    have hsm := idx_map fs f hg
    have htn : (((callees f).idxOf x.f4 : Int) + 1).toNat = (callees f).idxOf x.f4 + 1 := by omega
    rcases (show j = 0 ∨ j = 1 ∨ j = 2 by omega) with rfl | rfl | rfl
    ·show need (decide (0 ≤ (numb (callees f) x).f4 ∧ (numb (callees f) x).f4 < (small fs f).length)) 14 = .ok ()
     rw [hnx]
     dsimp only
     rw [decide_eq_true (show 0 ≤ ((callees f).idxOf x.f4 : Int) + 1 ∧ ((callees f).idxOf x.f4 : Int) + 1 < (small fs f).length by rw [small_length]; omega)]
     rfl
    ·show listQ (ownF f) (numb (callees f) x).f5 ((small fs f).getD (numb (callees f) x).f4.toNat zF).f0 = .ok ()
     rw [hnx]
     dsimp only
     rw [htn, hsm]
     exact hA
    ·show listQ (ownF f) (numb (callees f) x).f6 ((small fs f).getD (numb (callees f) x).f4.toNat zF).f1 = .ok ()
     rw [hnx]
     dsimp only
     rw [htn, hsm]
     exact hB
  ·have hnx : numb (callees f) x = x := by unfold numb; rw [if_neg h11]
   rw [hnx]
   refine ⟨hx.o0, hx.pl, hx.la, fun j hj => ?_⟩
   have hp := hx.ps j hj
   have hmp : (table.getD x.f0.toNat []).getD j .i ∈ table.getD x.f0.toNat [] := getD_mem_part _ _ hj
   have hno := table_nocall x.f0.toNat (by have := hx.o0; omega) (by have := hx.o0; omega) _ hmp
   rw [hl2]
   generalize (table.getD x.f0.toNat []).getD j .i = p at hp hno ⊢
   cases p <;> first | exact hp | (exfalso; simp at hno)
 have hgood : ∀ k, 0 < k → k < m + 1 → ∀ l : Int, codeQ G (small fs f) l k = .ok l := by
  intro k h0 hk l
  obtain ⟨k, rfl⟩ : ∃ k', k = k' + 1 := ⟨k - 1, by omega⟩
  have hk' : k < (callees f).length := by omega
  have he : (small fs f).getD (k + 1) zF = headF (fs.getD ((callees f)[k]).toNat zF) := by
   rw [small, List.getD_eq_getElem?_getD, List.getElem?_cons_succ, List.getElem?_map, List.getElem?_eq_getElem hk']
   rfl
  rw [codeQ, he]
  have hj : InsGood G (small fs f) (headF (fs.getD ((callees f)[k]).toNat zF)) jumpI true := by
   refine ⟨by decide, by decide, .inr (.inl rfl), fun j hj => ?_⟩
   have hj1 : j < 1 := hj
   obtain rfl : j = 0 := by omega
   rfl
  have := hj.asked (l := l) (by intro h; cases h)
  rw [if_neg (by decide)] at this
  show runTo _ l (0 + 1) = _
  refine (runTo_succ (s' := l) rfl).trans ?_
  rw [instrQ_is]
  exact this
 have hG := h.G0
 obtain ⟨l0, hl0, hb0⟩ := runTo_all (step := fun l i => headQ l ((small fs f).getD i zF) ((small fs f).getD i zF).f3.length) (fun l k => l ≤ 255 * (k : Int)) (s := 0) (by simp) (m + 1) (fun l k hk hl => by
  have hd := hheads k hk
  have hv := hd.v1
  refine ⟨_, hd.asked (by omega), by omega⟩) (m + 1) (Nat.le_refl _)
 obtain ⟨l1, hl1, _⟩ := runTo_all (step := codeQ G (small fs f)) (fun l k => k = 0 → l ≤ 255 * ((m + 1 : Nat) : Int)) (s := l0) (fun _ => hb0) (m + 1) (fun l k hk hl => by
  cases k with
  | succ k => exact ⟨l, hgood (k + 1) (by omega) hk l, fun h => by omega⟩
  | zero =>
   have hl' := hl rfl
   obtain ⟨r, hr, _⟩ := runTo_all (step := instrQ G (small fs f) (ownF f)) (fun l k => l ≤ 255 * ((m + 1 : Nat) : Int) + newsTo f.f3 k) (s := l) (by show l ≤ 255 * ((m + 1 : Nat) : Int) + ((0 : Nat) : Int); omega) f.f3.length (fun l k hk hl => by
    have hg := hins k hk
    have hnx : newsTo f.f3 (k + 1) ≤ newsTo f.f3 f.f3.length := newsTo_mono _ (by omega)
    have hs : newsTo f.f3 (k + 1) = if (f.f3.getD k zI).f0 = 6 then newsTo f.f3 k + 1 else newsTo f.f3 k := rfl
    refine ⟨(if (numb (callees f) (f.f3.getD k zI)).f0 = 6 then l + 1 else l), ?_, ?_⟩
    ·rw [instrQ_is, numb_getD, show (decide (k + 1 = (ownF f).f3.length)) = decide (k + 1 = f.f3.length) by simp [ownF]]
     exact hg.asked (fun h6 => by rw [numb_f0] at h6; rw [if_pos h6] at hs; omega)
    ·rw [numb_f0]
     split
     ·rename_i h6; rw [if_pos h6] at hs; omega
     ·rename_i h6; rw [if_neg h6] at hs; omega) f.f3.length (Nat.le_refl _)
   refine ⟨r, ?_, fun h => by omega⟩
   have hz : (small fs f).getD 0 zF = ownF f := rfl
   rw [codeQ, hz, show (ownF f).f3.length = f.f3.length by simp [ownF]]
   exact hr) (m + 1) (Nat.le_refl _)
 have e1 : headsQ (small fs f) = .ok l0 := by rw [headsQ, hlen]; exact hl0
 have e2 : codesQ G (small fs f) l0 = .ok l1 := by rw [codesQ, hlen]; exact hl1
 rw [chk, chkQ, if_pos hG, if_pos (by rw [hlen]; omega), e1]
 dsimp only
 rw [e2]
theorem fun_of {G : Int} {fs : List Fun} {f : Fun} (hc : callsIn fs.length f.f3 = true) (h : chk G (small fs f) = 0) : FunOk G fs f := by
 have hA := chk_of h
 have hl := small_length fs f
 have hln : (ownF f).f3.length = f.f3.length := by simp [ownF]
 have h0 : HeadOk (ownF f) := hA.hd 0 (by omega)
 have hH : HeadOk f := ⟨h0.p0, h0.p1, h0.r0, h0.r1, h0.v1, by have := h0.n0; rwa [hln] at this, by have := h0.n1; rwa [hln] at this⟩
 have hmem : ∀ k, k < f.f3.length → (f.f3.getD k zI).f0 = 11 → (f.f3.getD k zI).f4 ∈ callees f := fun k hk h11 => (mem_callsTo _).2 ⟨k, hk, h11, rfl⟩
 refine ⟨hA.G0, hH, fun k hk => ?_, fun k hk h11 => ?_⟩
 ·have hx : InsGood G (small fs f) (ownF f) ((ownF f).f3.getD k zI) (decide (k + 1 = (ownF f).f3.length)) := hA.ins 0 (by omega) k (by show k < (ownF f).f3.length; rw [hln]; exact hk)
  rw [hln, numb_getD] at hx
  have hm := hmem k hk
  have hci := callsIn_at hc k hk
  generalize f.f3.getD k zI = x at hx hm hci ⊢
  by_cases h11 : x.f0 = 11
  ·have hg := hm h11
   have hlt := List.idxOf_lt_length_iff.2 hg
   have hnx : numb (callees f) x = ⟨x.f0, x.f1, x.f2, x.f3, ((callees f).idxOf x.f4 : Int) + 1, x.f5, x.f6⟩ := by unfold numb; rw [if_pos h11]
   have hpl := hx.pl
   have hps := hx.ps
   have hla := hx.la
   rw [numb_f0, h11] at hpl hps
   rw [numb_f0] at hla
   refine ⟨by rw [h11]; decide, ?_, hla, fun j hj => ?_⟩
   ·rw [hnx] at hpl
    unfold plainB used at hpl
    dsimp only at hpl
    rw [show ((((callees f).idxOf x.f4 : Int) + 1) != 0) = true by simp; omega] at hpl
    rw [h11]
    exact plain_call_back _ _ _ _ _ _ hpl
   ·rw [h11] at hj ⊢
    have hj3 : j < 3 := hj
    have hA' := hps 1 (by decide)
    have hB' := hps 2 (by decide)
    have hsm := idx_map fs f hg
    have htn : (((callees f).idxOf x.f4 : Int) + 1).toNat = (callees f).idxOf x.f4 + 1 := by omega
    rcases (show j = 0 ∨ j = 1 ∨ j = 2 by omega) with rfl | rfl | rfl
    ·show need (decide (0 ≤ x.f4 ∧ x.f4 < fs.length)) 14 = .ok ()
     rw [decide_eq_true (hci h11)]
     rfl
    ·change listQ (ownF f) (numb (callees f) x).f5 ((small fs f).getD (numb (callees f) x).f4.toNat zF).f0 = .ok () at hA'
     rw [hnx] at hA'
     dsimp only at hA'
     rw [htn, hsm] at hA'
     exact hA'
    ·change listQ (ownF f) (numb (callees f) x).f6 ((small fs f).getD (numb (callees f) x).f4.toNat zF).f1 = .ok () at hB'
     rw [hnx] at hB'
     dsimp only at hB'
     rw [htn, hsm] at hB'
     exact hB'
  ·have hnx : numb (callees f) x = x := by unfold numb; rw [if_neg h11]
   rw [hnx] at hx
   refine ⟨hx.o0, hx.pl, hx.la, fun j hj => ?_⟩
   have hp := hx.ps j hj
   have hmp : (table.getD x.f0.toNat []).getD j .i ∈ table.getD x.f0.toNat [] := getD_mem_part _ _ hj
   have hno := table_nocall x.f0.toNat (by have := hx.o0; omega) (by have := hx.o0; omega) _ hmp
   rw [hln] at hp
   generalize (table.getD x.f0.toNat []).getD j .i = p at hp hno ⊢
   cases p <;> first | exact hp | (exfalso; simp at hno)
 ·have hg := hmem k hk h11
  have hlt := List.idxOf_lt_length_iff.2 hg
  have := hA.hd ((callees f).idxOf (f.f3.getD k zI).f4 + 1) (by omega)
  rwa [idx_map fs f hg] at this
theorem rightB_iff (G : Int) (fs : List Fun) (fi : Int) : rightB G fs fi = true ↔ (0 ≤ fi ∧ fi < fs.length) ∧ FunOk G fs (fs.getD fi.toNat zF) := by
 unfold rightB
 rw [Bool.and_eq_true, Bool.and_eq_true, decide_eq_true_eq, beq_iff_eq]
 exact ⟨fun h => ⟨h.1, fun_of h.2.1 h.2.2⟩, fun h => ⟨h.1, callsIn_all h.2.into, small_right h.2⟩⟩
theorem insOk_of2 {G : Int} {fs : List Fun} {sums : List Smm} {f : Fun} {x : Ins} {last : Bool} (h : InsGood G fs f x last) (hf : HeadOk f) (hcal : x.f0 = 11 → HeadOk (headF (fs.getD x.f4.toNat zF))) (hs : sums.length = fs.length) (hfit : x.f0 = 11 → fitsB (fs.getD x.f4.toNat zF) (sums.getD x.f4.toNat zS) = true) : InsOk sums x := by
 have hz := h.zero
 have ho := h.o0
 have hv := hf.v1
 have hk : x.f0.toNat < 18 := by omega
 have hcallF : x.f0 = 11 → 0 ≤ x.f4 ∧ x.f4 < fs.length := fun h11 => of_decide_eq_true (need_ok (h.part (p := .F) (by rw [h11]; decide)))
 have hA : Part.A ∈ table.getD x.f0.toNat [] → (x.f5.length : Int) = (fs.getD x.f4.toNat zF).f0 ∧ ∀ v ∈ x.f5, 0 ≤ v ∧ v < f.f2 := fun hp => list_of (h.part hp)
 have hB : Part.B ∈ table.getD x.f0.toNat [] → (x.f6.length : Int) = (fs.getD x.f4.toNat zF).f1 ∧ ∀ v ∈ x.f6, 0 ≤ v ∧ v < f.f2 := fun hp => list_of (h.part hp)
 have hV : Part.V ∈ table.getD x.f0.toNat [] → (x.f5.length : Int) = f.f1 ∧ ∀ v ∈ x.f5, 0 ≤ v ∧ v < f.f2 := fun hp => list_of (h.part hp)
 have h11 : ∀ p, p = Part.A ∨ p = Part.B → p ∈ table.getD x.f0.toNat [] → x.f0 = 11 := by
  rintro p (rfl | rfl) hp
  ·have := part_A _ hk hp; omega
  ·have := part_B _ hk hp; omega
 have hc := hf.r1
 have bound : ∀ p, p = Part.A ∨ p = Part.B → p ∈ table.getD x.f0.toNat [] → (fs.getD x.f4.toNat zF).f0 ≤ 8 ∧ (fs.getD x.f4.toNat zF).f1 ≤ 4 := fun p hp hm => by
  have hd := hcal (h11 p hp hm)
  have h8 := hd.p1
  refine ⟨?_, hd.r1⟩
  dsimp only at h8
  split at h8 <;> omega
 refine ⟨⟨by omega, ho.2⟩, ?_, ?_, ?_, ?_, ?_, ?_, fun h11' => ?_⟩
 ·by_cases hp : Part.R ∈ table.getD x.f0.toNat []
  ·have := var_of (need_ok (h.part hp)); omega
  ·have := hz.1 hp; omega
 ·by_cases hp : Part.S ∈ table.getD x.f0.toNat []
  ·have := var_of (need_ok (h.part hp)); omega
  ·have := hz.2.1 hp; omega
 ·intro v hv5
  by_cases hp : Part.A ∈ table.getD x.f0.toNat []
  ·have := (hA hp).2 v hv5; omega
  ·by_cases hp2 : Part.V ∈ table.getD x.f0.toNat []
   ·have := (hV hp2).2 v hv5; omega
   ·have := hz.2.2.1 hp hp2
    rw [List.length_eq_zero_iff.1 this] at hv5; cases hv5
 ·intro v hv6
  by_cases hp : Part.B ∈ table.getD x.f0.toNat []
  ·have := (hB hp).2 v hv6; omega
  ·have := hz.2.2.2 hp
   rw [List.length_eq_zero_iff.1 this] at hv6; cases hv6
 ·by_cases hp : Part.A ∈ table.getD x.f0.toNat []
  ·have := (hA hp).1
   have := (bound _ (.inl rfl) hp).1
   omega
  ·by_cases hp2 : Part.V ∈ table.getD x.f0.toNat []
   ·have := (hV hp2).1; omega
   ·have := hz.2.2.1 hp hp2; omega
 ·by_cases hp : Part.B ∈ table.getD x.f0.toNat []
  ·have := (hB hp).1
   have := (bound _ (.inr rfl) hp).2
   omega
  ·have := hz.2.2.2 hp; omega
 ·have hx := hcallF h11'
  have ha := (hA (by rw [h11']; decide)).1
  have hb := (hB (by rw [h11']; decide)).1
  obtain ⟨f1, f2, f3⟩ := fit_of (hfit h11')
  refine ⟨⟨hx.1, by omega⟩, by omega, by omega, fun r hr => ?_⟩
  obtain ⟨j, hj, rfl⟩ := List.getElem_of_mem hr
  have := (f3 j (by omega)).2.1
  rw [List.getD_eq_getElem?_getD (l := (sums.getD x.f4.toNat zS).f1), List.getElem?_eq_getElem hj] at this
  simp only [Option.getD_some] at this
  omega
theorem all_ok2 {G : Int} {fs : List Fun} {sums : List Smm} {f : Fun} (h : FunOk G fs f) (hs : sums.length = fs.length) (hfit : ∀ x ∈ f.f3, x.f0 = 11 → fitsB (fs.getD x.f4.toNat zF) (sums.getD x.f4.toNat zS) = true) :
  ∀ k, k ≤ f.f3.length → ∀ e ∈ (allE f sums (1 + f.f1 + f.f2) k).1, okE (locsF f) e
 | 0, _, e, he => by cases he
 | k + 1, hk, e, he => by
  have hH := h.hd
  have hI := h.ins k (by omega)
  unfold allE at he
  dsimp only at he
  rcases List.mem_append.1 he with he | he
  ·exact all_ok2 h hs hfit k (by omega) e he
  ·have hm : f.f3.getD k zI ∈ f.f3 := by rw [List.getD_eq_getElem?_getD, List.getElem?_eq_getElem (by omega)]; exact List.getElem_mem _
   have hr0 := hH.r0; have hp := hH.p0; have h8 := hH.p1
   have hf2 : 0 ≤ f.f2 := by split at h8 <;> omega
   have hmono := newsTo_mono f.f3 (k := k + 1) (n := f.f3.length) hk
   refine ins_ok hI hH ?_ (fun h6 => ?_) (insOk_of2 hI hH (h.cal k (by omega)) hs (hfit _ hm)) (hfit _ hm) e he
   ·unfold locsF; omega
   ·rw [allE_news]
    have : newsTo f.f3 (k + 1) = newsTo f.f3 k + 1 := if_pos h6
    unfold locsF
    omega
def REd (e : Edg) (cs : List Value) : Prop := cs = [.int .i64 e.f0, .int .i64 e.f1, .int .i64 e.f2]
def GotAt (w : World) (sc lb : Nat) (pre : List Edg) (W : World) : Prop :=
 ∃ v, W.heap[lb]? = some (.cells #[v] 83 (0, 0)) ∧ OwnRow REd 144 3 W (sc + 1) v pre ∧ Below w.heap.size w W
theorem ownRow_kept {w W W' : World} {sc : Nat} {α : Type} {R : α → List Value → Prop} {e : TypeId} {size : Nat} {v : Value} {ps : List α} (h : OwnRow R e size W (sc + 1) v ps) (hk : ∀ k, v.ownBlock = some k → W'.heap[k]? = W.heap[k]?) : OwnRow R e size W' (sc + 1) v ps := by
 obtain ⟨inner, o, r⟩ := h
 exact ⟨inner, own_move o hk, r⟩
theorem GotAt.kept {w W W' : World} {sc lb : Nat} {pre : List Edg} (h : GotAt w sc lb pre W) (hs : w.heap.size ≤ sc) (hlt : sc < lb) (hk : Kept sc W W') : GotAt w sc lb pre W' := by
 obtain ⟨v, hb, hr, hB⟩ := h
 refine ⟨v, (hk.block _ (blk_lt hb) (by omega)).trans hb, ?_, hk.below hB (Nat.le_refl _) hs⟩
 refine ownRow_kept (w := W) hr fun k e => ?_
 obtain ⟨inner, o, r⟩ := hr
 exact hk.block _ (own_lt o k e) (by have := own_base o k e; omega)
theorem GotAt.put {w W : World} {sc lb : Nat} {pre : List Edg} {k : Nat} {o o' : Obj} (h : GotAt w sc lb pre W) (hk : w.heap.size ≤ k) (ho : W.heap[k]? = some o) (hc : o.isCells = false) : GotAt w sc lb pre (W.putObj k o') := by
 obtain ⟨v, hb, hr, hB⟩ := h
 have hne : ∀ {j : Nat} {cs : Array Value} {t : TypeId}, W.heap[j]? = some (.cells cs t (0, 0)) → (W.putObj k o').heap[j]? = some (.cells cs t (0, 0)) := fun {j cs t} hj => by
  have hn : k ≠ j := by rintro rfl; rw [ho] at hj; injection hj with hj; subst hj; cases hc
  exact (World.putObj_heap_other (by omega)).trans hj
 refine ⟨v, hne hb, ?_, hB.trans (put_below hk ho)⟩
 refine ownRow_kept (w := W) hr fun j e => ?_
 obtain ⟨inner, own, r⟩ := hr
 obtain ⟨cells, hj⟩ := own_typed own j e
 rw [hj]
 exact hne hj
theorem GotAt.more {w W w1 : World} {sc lb : Nat} {pre : List Edg} {e : Edg} {v v' : Value} {inner : List Value} {tmp : Obj} (hs : w.heap.size ≤ sc) (hlt : sc < lb) (hb : W.heap[lb]? = some (.cells #[v] 83 (0, 0))) (ho : W.ownsRow (sc + 1) 144 3 v pre.length inner) (hr : Reps REd 3 pre inner) (hB : Below w.heap.size w W)
  (hown : w1.ownsRow (sc + 1) 144 3 v' (pre.length + 1) (inner ++ [.int .i64 e.f0, .int .i64 e.f1, .int .i64 e.f2])) (hg : (W.alloc tmp).grownBy w1 v.ownBlock) :
  KeepsOthers W (w1.setCell ⟨lb, 0, none⟩ v') ∧ GotAt w sc lb (pre ++ [e]) (w1.setCell ⟨lb, 0, none⟩ v') ∧ Below (sc + 1) W (w1.setCell ⟨lb, 0, none⟩ v') ∧ Stay W (w1.setCell ⟨lb, 0, none⟩ v') := by
 have hg2 : W.grownBy w1 v.ownBlock := World.grownBy.trans (World.grownBy_alloc W _ _) hg
 have hl := blk_lt hb
 have h1b : w1.heap[lb]? = some (.cells #[v] 83 (0, 0)) := (hg2.block _ hl (own_ne ho hb (by decide))).trans hb
 have hbs : ∀ k, v.ownBlock = some k → sc + 1 ≤ k := fun k e => own_base ho k e
 refine ⟨KeepsOthers.trans (KeepsOthers.of_grownBy hg2 fun j o e hj => ?_) (KeepsOthers.setCell _ _ _), ⟨v', blk_put h1b 0 _ rfl, ⟨inner ++ [.int .i64 e.f0, .int .i64 e.f1, .int .i64 e.f2], by rw [List.length_append, List.length_singleton]; exact own_setCell hown (p := ⟨lb, 0, none⟩) (own_ne hown h1b (by decide)) _, ?_⟩, ?_⟩, ?_, ?_⟩
 ·obtain ⟨cells, hc⟩ := own_typed ho j e
  rw [hc] at hj; injection hj with hj; subst hj; rfl
 ·exact hr.snoc rfl rfl
 ·exact (hB.grown hg2 hB.size (fun k e => by have := hbs k e; omega)).setCell (p := ⟨lb, 0, none⟩) (show w.heap.size ≤ lb by omega) _
 ·exact ((Below.refl (sc + 1) W).grown hg2 (by omega) hbs).setCell (p := ⟨lb, 0, none⟩) (show sc + 1 ≤ lb by omega) _
 ·intro k c t hk n1 n2
  have h2 : w1.heap[k]? = some (.cells c t (0, 0)) := (hg2.block _ (blk_lt hk) (own_ne ho hk (Ne.symm n2))).trans hk
  refine blk_far h2 (p := ⟨lb, 0, none⟩) ?_ _
  rintro rfl
  rw [hb] at hk
  injection hk with hk
  injection hk with _ hk _
  exact n1 hk.symm
theorem got_edges {w W : World} {sc lb : Nat} {xs : List Edg} (h : GotAt w sc lb xs W) (hs : w.heap.size ≤ sc) : ∃ v, W.heap[lb]? = some (.cells #[v] 83 (0, 0)) ∧ k144.R 144 W w.heap.size (fun _ => True) v xs ∧ Below w.heap.size w W := by
 obtain ⟨v, hb, hr, hB⟩ := h
 refine ⟨v, hb, ⟨fun _ _ => trivial, ?_⟩, hB⟩
 exact (hr.lower (by omega)).imp_ (fun p c hp => by rw [hp]; exact k144_mkM _ _ _ p)
theorem R_put_other {α : Type} {d : Kd α} {e base : Nat} {ok : Nat → Prop} {W : World} {v : Value} {xs : List α} {k : Nat} {o o' : Obj} (h : d.R e W base ok v xs) (ho : W.heap[k]? = some o) (hc : o.isCells = false) : d.R e (W.putObj k o') base ok v xs := by
 refine Kd.R_mono (Kd.R_move (Kd.R_bound h) fun j hj => ?_) (fun _ hj => hj.1)
 obtain ⟨_, _, _, q, _, cells, hq⟩ := hj
 refine World.putObj_heap_other ?_
 rintro rfl
 rw [ho] at hq
 injection hq with hq
 subst hq
 cases hc
open Go.RowKit Go.Shelf Go.Maps Go.Proofs.YtcbcacbbnojdjaaGreatDoorW.PrintWords Go.Proofs.YtcbcacbbnojdjaaGreatDoorW.PrintLast Go.Proofs.YtcbcacbbnojdjaaGreatDoor.PSolveFunctions
attribute [local go_sem] Oper.semAt_some
theorem first_is (f : Fun) (h1 : 0 ≤ f.f1 ∧ f.f1 ≤ 4) (h2 : 0 ≤ f.f2 ∧ f.f2 ≤ 255) : flow_first.f f.f0 f.f1 f.f2 f.f3 = some (1 + f.f1 + f.f2) := by
 unfold flow_first.f
 congr 1
 unfold wrap64
 omega
theorem edges40_any (sc : Nat) (w : World) : Calls Tryz.prog 96 #[.pointer (some ⟨sc, 0, none⟩)] w fun e w' => e = .returned (.func (.func 125) #[] #[.pointer (some ⟨w.heap.size, 0, none⟩)]) ∧ w' = w.alloc (.cells #[.pointer (some ⟨sc, 0, none⟩)] 137) := by
 have hmf : ∀ (fn : Fn) (first cap : Array Value) (w : World), (Instr.makeFunc fn first cap).run Tryz.prog w = .ok (.func fn first cap) w := fun _ _ _ _ => rfl
 go_enter Tryz.func96, Tryz.ntmps96
 go_wp2_with fail
 go_ret
 exact ⟨rfl, rfl⟩
def FitAll (fs : List Fun) (sums : List Smm) (f : Fun) : Prop := ∀ x ∈ f.f3, x.f0 = 11 → fitsB (fs.getD x.f4.toNat zF) (sums.getD x.f4.toNat zS) = true
def edgesPost (fs : List Fun) (sums : List Smm) (f : Fun) (w : World) (e : Ending) (w' : World) : Prop :=
 (FitAll fs sums f ∧ ∃ v, e = .returned (.tuple #[v, .int .i64 0]) ∧ k144.R 144 w' w.heap.size (fun _ => True) v (allE f sums (1 + f.f1 + f.f2) f.f3.length).1 ∧ Below w.heap.size w w') ∨
 (¬ FitAll fs sums f ∧ e = .returned (.tuple #[.slice none 0 0, .int .i64 1]) ∧ Below w.heap.size w w')
set_option maxRecDepth 100000 in
set_option maxHeartbeats 12800000 in
theorem edges_all (G : Int) (A : Option Addr) (c : Nat) (fs : List Fun) (fi : Int) (SA : Option Addr) (sums : List Smm) (sl : Nat) (w : World) (hC : k66.C w A fs.length fs) (hcap : fs.length ≤ c) (hS : k34.C w SA sums.length sums) (hscap : sums.length ≤ sl) (hlen : fs.length ≤ 2147483647)
  (hcode : ∀ f ∈ fs, f.f3.length ≤ 2147483646 ∧ ∀ x ∈ f.f3, x.f5.length ≤ 2147483647 ∧ x.f6.length ≤ 2147483647) (hsl : sums.length = fs.length) (hsm : ∀ s ∈ sums, s.f0.length ≤ 2147483646 ∧ ∀ r ∈ s.f1, r.length ≤ 2147483647) (hfi : 0 ≤ fi ∧ fi < fs.length)
  (f : Fun) (hf : f = fs.getD fi.toNat zF) (hfo : FunOk G fs f) (htl : TellsAt w) :
  Calls Tryz.prog 42 #[.agg #[.int .i64 G, .slice A fs.length c], .int .i64 fi, .slice SA sums.length sl] w (edgesPost fs sums f w) := by
 have hr : rightB G fs fi = true := (rightB_iff G fs fi).2 ⟨hfi, hf ▸ hfo⟩
 have hH := hfo.hd
 have h1 : 0 ≤ f.f1 ∧ f.f1 ≤ 4 := ⟨hH.r0, hH.r1⟩
 have h2 : 0 ≤ f.f2 ∧ f.f2 ≤ 255 := ⟨by have h8 := hH.p1; have := hH.p0; split at h8 <;> omega, hH.v1⟩
 have hn : f.f3.length ≤ 4096 := by have := hH.n1; omega
 have HFO := Lib.hid hfo
 clear hfo hH
 have HC := Lib.hid hC
 have HCODE := Lib.hid hcode
 have HS := Lib.hid hS
 have HSM := Lib.hid hsm
 have HR := Lib.hid hr
 have HF := Lib.hid hf
 have HTL := Lib.hid htl
 clear hC hcode hS hsm hr hf htl
 have hb0 := below1 w (.cells #[.int .i64 G, .slice A fs.length c] 24)
 have hn0 := alloc_new w (.cells #[.int .i64 G, .slice A fs.length c] 24)
 refine (callsIn_wide (n := 4)).1 (callsIn_of_wp_marks Tryz.func42 rfl trivial ?_ rfl)
 refine wpIn_wide.2 ?_
 simp only [Tryz.ntmps42, List.size_toArray, List.length_cons, List.length_nil, Nat.reduceAdd, Nat.reduceSub, Array.replicate_succ, Array.replicate_zero, List.push_toArray, List.append_toArray, List.nil_append, List.cons_append]
 go_upto_region 1 with (fail)
 obtain ⟨N, hN⟩ : ∃ N, w.heap.size = N := ⟨_, rfl⟩
 have HN := Lib.hid hN
 rw [hN] at hb0 hn0 ⊢
 clear hN
 generalize World.alloc _ _ = W at hb0 hn0 ⊢
 have HB := Lib.hid hb0
 have HP := Lib.hid hn0
 clear hb0 hn0
 have p1 := blk_cell HP.out 1
 have p0 := blk_cell HP.out 0
 simp only [List.getElem?_toArray, List.getElem?_cons_succ, List.getElem?_cons_zero] at p0 p1
 have HRT := Lib.hid (right_any G A c fs fi W (Kd.C_below HC.out (HN.out ▸ HB.out)) hlen HCODE.out)
 rw [HR.out] at HRT
 go_wp2_with fail
 refine HRT.out.mono ?_
 rintro e W1 ⟨rfl, hb⟩
 have HP1 := Lib.hid ((hb.block _ (blk_lt HP.out)).trans HP.out)
 have HB1 := Lib.hid (HB.out.trans (hb.mono (HN.out ▸ HB.out.size)))
 clear hb p0 p1 HRT HB HP
 have p1 := blk_cell HP1.out 1
 simp only [List.getElem?_toArray, List.getElem?_cons_succ, List.getElem?_cons_zero] at p1
 have bne : ((sums.length : Int) != (fs.length : Int)) = false := by rw [hsl]; simp
 go_upto_region 3 with (fail)
 clear p1 bne
 obtain ⟨wa, rfl⟩ : ∃ wa : World, wa = W1 := ⟨_, rfl⟩
 have p1 := blk_cell HP1.out 1
 simp only [List.getElem?_toArray, List.getElem?_cons_succ, List.getElem?_cons_zero] at p1
 have hf0 := hfi.1
 have hf1 := hfi.2
 obtain ⟨ad, A3, c3, hA, e0, e1, e2, e3, hc3, hC3⟩ := at_T66 HC.out fi hf0 hf1
 have hf' : rd_T66 fs fi = f := HF.out.symm
 rw [hf'] at e0 e1 e2 e3 hc3 hC3
 have HC0 := Lib.hid hC3
 have hbn : Below w.heap.size w wa := HN.out ▸ HB1.out
 replace e0 := below_cells hbn _ _ e0
 replace e1 := below_cells hbn _ _ e1
 replace e2 := below_cells hbn _ _ e2
 replace e3 := below_cells hbn _ _ e3
 replace hC3 := Kd.C_below hC3 hbn
 subst hA
 have HC3 := Lib.hid hC3
 have HFI := Lib.hid (first_is f h1 h2)
 have HP2 := Lib.hid (show (wa.drew).heap[N]? = _ from HP1.out)
 have HB2 := Lib.hid (show Below N w wa.drew from below_drew HB1.out)
 have E0 := Lib.hid e0
 have E1 := Lib.hid e1
 have E2 := Lib.hid e2
 have E3 := Lib.hid e3
 have C3 := Lib.hid (show k79.C wa.drew A3 f.f3.length f.f3 from hC3)
 clear hC3
 go_region_held3 (fun w' => w'.cell? ⟨N, 1, none⟩ = some (.slice (some ad) fs.length c) ∧ w'.cell? (ad.add (fi.toNat * 4)) = some (.int .i64 f.f0) ∧ w'.cell? ⟨(ad.add (fi.toNat * 4)).block, (ad.add (fi.toNat * 4)).off + 1, none⟩ = some (.int .i64 f.f1) ∧ w'.cell? ⟨(ad.add (fi.toNat * 4)).block, (ad.add (fi.toNat * 4)).off + 2, none⟩ = some (.int .i64 f.f2) ∧ w'.cell? ⟨(ad.add (fi.toNat * 4)).block, (ad.add (fi.toNat * 4)).off + 3, none⟩ = some (.slice A3 f.f3.length c3))
  (first | (go_keep; done) | exact ⟨k0, k1, k2, k3, k4⟩)
  (first | (go_at_call 94; refine (flow_first.calls f.f0 f.f1 f.f2 A3 c3 f.f3 (1 + f.f1 + f.f2) wa.drew C3.out hc3 HFI.out).mono ?_; rintro e w3 ⟨rfl, hb3⟩; have k0 := below_cells hb3 _ _ p1; have k1 := below_cells hb3 _ _ e0; have k2 := below_cells hb3 _ _ e1; have k3 := below_cells hb3 _ _ e2; have k4 := below_cells hb3 _ _ e3; have HB3 := Lib.hid hb3; clear hb3))
 have hb4 := below1 w3 (.cells #[.int .i64 f.f0, .int .i64 f.f1, .int .i64 f.f2, .slice A3 f.f3.length c3, .slice SA fs.length sl, .int .i64 (1 + f.f1 + f.f2)] 139)
 have hn4 := alloc_new w3 (.cells #[.int .i64 f.f0, .int .i64 f.f1, .int .i64 f.f2, .slice A3 f.f3.length c3, .slice SA fs.length sl, .int .i64 (1 + f.f1 + f.f2)] 139)
 have HB3' := Lib.hid (Below.trans (below_drew (Below.refl _ _)) HB3.out : Below wa.heap.size wa w3)
 have hsz3 : wa.heap.size ≤ w3.heap.size := HB3'.out.size
 have HB4 := Lib.hid (HB1.out.trans ((HB3'.out.trans (hb4.mono hsz3)).mono (by rw [← HN.out]; exact HB1.out.size)))
 have HP4 := Lib.hid (((HB3'.out.trans (hb4.mono hsz3)).block _ (blk_lt HP1.out)).trans HP1.out)
 have HC4 := Lib.hid (Kd.C_below HC3.out (HB3'.out.trans (hb4.mono hsz3)))
 obtain ⟨sc, hsc⟩ : ∃ sc, w3.heap.size = sc := ⟨_, rfl⟩
 have hNs : N < sc := by have := blk_lt HP1.out; omega
 rw [hsc] at hn4 ⊢
 have hS4 : SceneAt (w3.alloc (.cells #[.int .i64 f.f0, .int .i64 f.f1, .int .i64 f.f2, .slice A3 f.f3.length c3, .slice SA fs.length sl, .int .i64 (1 + f.f1 + f.f2)] 139)) sc f A3 c3 SA sums.length sl (1 + f.f1 + f.f2) := by rw [hsl]; exact hn4
 have HS4 := Lib.hid hS4
 clear hS4 hn4 hb4 hsc hsz3 k0 k1 k2 k3 k4 e0 e1 e2 e3 p1 HB3 HB3' HP2 HB2 E0 E1 E2 E3 C3 HC3 HP1 HB1 HFI
 generalize World.alloc _ _ = W4 at HB4 HP4 HC4 HS4 ⊢
 have s3 := blk_cell HS4.out 3
 simp only [List.getElem?_toArray, List.getElem?_cons_succ, List.getElem?_cons_zero] at s3
 go_wp2_with fail
 clear s3
 go_loopw [45] (fun i wr => ∃ j : Nat, j ≤ f.f3.length ∧ i = .int .i64 j ∧ (∀ m, m < j → (f.f3.getD m zI).f0 = 11 → fitsB (fs.getD (f.f3.getD m zI).f4.toNat zF) (sums.getD (f.f3.getD m zI).f4.toNat zS) = true) ∧ Below W4.heap.size W4 wr) (fun i _ => f.f3.length - (intOf i).toNat)
 case atStart => exact ⟨0, by omega, rfl, fun m hm => absurd hm (by omega), Below.refl _ _⟩
 case round =>
  obtain ⟨j, hj, rfl, hfj, hb⟩ := hrel
  have HBr := Lib.hid hb
  have HFJ := Lib.hid hfj
  clear hb hfj
  by_cases hlt : j < f.f3.length
  ·obtain ⟨ad3, A5, c5, A6, c6, hA3, x0, x1, x2, x3, x4, x5, x6, _, _, _, _⟩ := at_T79 (Kd.C_below HC4.out HBr.out) (j : Int) (by omega) (by omega)
   obtain ⟨x, hx⟩ : ∃ x, x = f.f3.getD j zI := ⟨_, rfl⟩
   have hxr : rd_T79 f.f3 (j : Int) = x := by rw [rd_T79, Int.toNat_natCast]; exact hx.symm
   rw [hxr] at x0 x1 x2 x3 x4 x5 x6
   rw [Int.toNat_natCast] at x0 x1 x2 x3 x4 x5 x6
   have hxm : x ∈ f.f3 := hx ▸ (by rw [List.getD_eq_getElem?_getD, List.getElem?_eq_getElem hlt]; exact List.getElem_mem hlt)
   have HXM := Lib.hid hxm
   have HXJ := Lib.hid hx
   subst hA3
   clear hx hxr hxm
   go_upto_region 7 with (fail)
   have hb5 := below1 wr (.cells #[.int .i64 x.f0, .int .i64 x.f1, .int .i64 x.f2, .int .i64 x.f3, .int .i64 x.f4, .slice A5 x.f5.length c5, .slice A6 x.f6.length c6] 79)
   have hn5 := alloc_new wr (.cells #[.int .i64 x.f0, .int .i64 x.f1, .int .i64 x.f2, .int .i64 x.f3, .int .i64 x.f4, .slice A5 x.f5.length c5, .slice A6 x.f6.length c6] 79)
   have HB5 := Lib.hid (HBr.out.trans (hb5.mono HBr.out.size))
   obtain ⟨tb, htb⟩ : ∃ tb, wr.heap.size = tb := ⟨_, rfl⟩
   rw [htb] at hn5 ⊢
   clear hb5 htb x0 x1 x2 x3 x4 x5 x6
   generalize World.alloc _ _ = W5 at hn5 HB5 ⊢
   have HX5 := Lib.hid hn5
   clear hn5
   have y0 := blk_cell HX5.out 0
   have y4 := blk_cell HX5.out 4
   have p1 := blk_cell ((HB5.out.block _ (blk_lt HP4.out)).trans HP4.out) 1
   simp only [List.getElem?_toArray, List.getElem?_cons_succ, List.getElem?_cons_zero] at y0 y4 p1
   by_cases h11 : x.f0 = 11
   ·have b11 : (x.f0 == 11) = true := by simpa using h11
    have hx4' := HFO.out.into j hlt (by rw [← HXJ.out]; exact h11)
    rw [← HXJ.out] at hx4'
    have hx4 : 0 ≤ x.f4 ∧ x.f4 < sums.length := ⟨hx4'.1, by omega⟩
    clear hx4'
    have H11 := Lib.hid h11
    clear h11
    have hbw := HB4.out.trans (HB5.out.mono (by rw [← HN.out]; exact HB4.out.size))
    obtain ⟨_, G3, k3, hAd, e0, e1, e2, e3, hk3, hG3⟩ := at_T66 (Kd.C_below HC.out (HN.out ▸ hbw)) x.f4 hx4.1 (by omega)
    obtain ⟨sd, S0, l0, S1, l1, hSd, g0, g1, hl0, hS0, hl1, hS1⟩ := at_T34 (Kd.C_below HS.out (HN.out ▸ hbw)) x.f4 hx4.1 hx4.2
    obtain ⟨gf, hgf⟩ : ∃ gf, gf = fs.getD x.f4.toNat zF := ⟨_, rfl⟩
    have hgf' : rd_T66 fs x.f4 = gf := hgf.symm
    obtain ⟨gs, hgs⟩ : ∃ gs, gs = sums.getD x.f4.toNat zS := ⟨_, rfl⟩
    have hgs' : rd_T34 sums x.f4 = gs := hgs.symm
    rw [hgf'] at e0 e1 e2 e3 hk3 hG3
    rw [hgs'] at g0 g1 hl0 hS0 hl1 hS1
    have HGE := Lib.hid (show fitsB (fs.getD x.f4.toNat zF) (sums.getD x.f4.toNat zS) = fitsB gf gs by rw [hgf, hgs])
    have hsz := HSM.out gs (hgs ▸ (by rw [List.getD_eq_getElem?_getD, List.getElem?_eq_getElem (show x.f4.toNat < sums.length by omega)]; exact List.getElem_mem _))
    injection hAd with hAd
    subst hAd
    subst hSd
    have HFA := Lib.hid (fits_any gf gs G3 k3 S0 l0 S1 l1 W5.drew hG3 hk3 hS0 hl0 hS1 hl1 hsz.1 hsz.2)
    obtain ⟨fb, hfb⟩ : ∃ fb, fitsB gf gs = fb := ⟨_, rfl⟩
    rw [hfb] at HFA
    have HFB := Lib.hid (HGE.out.trans hfb)
    have hx40 := hx4.1
    have hx41 : x.f4 < fs.length := by omega
    have hx42 : x.f4 < sums.length := hx4.2
    clear hgf hgf' hgs hgs' hsz hG3 hS0 hS1 hbw hfb HGE
    go_still_tail 15, (by kernel_rfl)
    change wpList _ _ _ _ _ W5.drew
    clear y0 y4 p1 e0 e1 e2 e3 g0 g1
    go_wp2_with fail
    refine HFA.out.mono ?_
    rintro e W6 ⟨rfl, hb6⟩
    have HB6 := Lib.hid (HB5.out.trans ((Below.trans (below_drew (Below.refl _ _)) hb6 : Below W5.heap.size W5 W6).mono HB5.out.size))
    clear hb6
    cases fb with
    | true =>
     go_wp2_with fail
     go_roundw
     case rel =>
      refine ⟨j + 1, by omega, by go_num, fun m hm h11 => ?_, HB6.out⟩
      by_cases hmj : m = j
      ·subst hmj; rw [← HXJ.out]; exact HFB.out
      ·exact HFJ.out m (by omega) h11
     case measure => simp [intOf]; omega
    | false =>
     go_wp2_with fail
     refine ⟨_, results_tmp2 rfl _ _ _, .inr ⟨fun hall => ?_, rfl, (HN.out ▸ HB4.out : Below w.heap.size w W4).trans (HB6.out.mono (by have := HB4.out.size; rw [HN.out] at this ⊢; have := blk_lt HP4.out; omega))⟩⟩
     have := hall x HXM.out H11.out
     rw [HFB.out] at this
     cases this
   ·have b11 : (x.f0 == 11) = false := by simpa using h11
    clear h11
    go_quiet (fail)
    go_wp2_with fail
    go_roundw
    case rel =>
     refine ⟨j + 1, by omega, by go_num, fun m hm h11' => ?_, pw_below_drewN HB5.out _⟩
     by_cases hmj : m = j
     ·subst hmj; rw [← HXJ.out] at h11'; rw [h11'] at b11; cases b11
     ·exact HFJ.out m (by omega) h11'
    case measure => simp [intOf]; omega
  ·obtain rfl : f.f3.length = j := by omega
   have HFIT := Lib.hid (show FitAll fs sums f from fun x hx h11 => by
    obtain ⟨m, hm, rfl⟩ := List.getElem_of_mem hx
    have := HFJ.out m hm
    rw [List.getD_eq_getElem?_getD, List.getElem?_eq_getElem hm] at this
    exact this h11)
   have HOK := Lib.hid (show ∀ x ∈ f.f3, InsOk sums x from fun x hx => by
    obtain ⟨m, hm, rfl⟩ := List.getElem_of_mem hx
    have hI := HFO.out.ins m hm
    have hcl := HFO.out.cal m hm
    rw [List.getD_eq_getElem?_getD, List.getElem?_eq_getElem hm] at hI hcl
    exact insOk_of2 hI HFO.out.hd hcl hsl (HFIT.out _ hx))
   clear hlt hj HFJ
   go_wp2_with fail
   refine (edges40_any sc _).mono ?_
   rintro e W6 ⟨rfl, hW6⟩
   have hb6 := below1 wr (.cells #[.slice none 0 0] 83)
   have hn6 := alloc_new wr (.cells #[.slice none 0 0] 83)
   have hz6 : (wr.alloc (.cells #[.slice none 0 0] 83)).heap.size = wr.heap.size + 1 := by simp
   have hb7 := below1 (wr.alloc (.cells #[.slice none 0 0] 83)) (.cells #[.pointer (some ⟨sc, 0, none⟩)] 137)
   have hn7 := alloc_new (wr.alloc (.cells #[.slice none 0 0] 83)) (.cells #[.pointer (some ⟨sc, 0, none⟩)] 137)
   rw [← hW6] at hb7 hn7
   have hk6 := (hb7.block _ (blk_lt hn6)).trans hn6
   have hBW : Below wr.heap.size wr W6 := hb6.trans (hb7.mono hb6.size)
   have hz7 : W6.heap.size = wr.heap.size + 2 := by rw [hW6]; simp
   rw [hz6] at hn7 ⊢
   clear hW6 hb6 hb7 hn6 hz6
   have HK6 := Lib.hid hk6
   have HN7 := Lib.hid hn7
   have HB6 := Lib.hid (HBr.out.trans (hBW.mono HBr.out.size))
   obtain ⟨lb, hlb⟩ : ∃ lb, wr.heap.size = lb := ⟨_, rfl⟩
   rw [hlb] at HK6 HN7 hz7 ⊢
   have hlsc : sc < lb := by have := blk_lt HS4.out; have := HBr.out.size; omega
   clear hk6 hn7 hBW hlb HBr
   go_wp2_with fail
   refine (wpIn_wide (n := 5)).1 ?_
   have hsN : w.heap.size ≤ sc := by rw [HN.out]; omega
   have hbW : Below w.heap.size w W6 := (HN.out ▸ HB4.out : Below w.heap.size w W4).trans (HB6.out.mono (by have := HB4.out.size; rw [HN.out] at *; exact Nat.le_trans (by have := blk_lt HP4.out; omega) (Nat.le_refl _)))
   have hS6 : SceneAt W6 sc f A3 c3 SA sums.length sl (1 + f.f1 + f.f2) := (HB6.out.block _ (blk_lt HS4.out)).trans HS4.out
   obtain ⟨i0, hi0, hz0, hz1, hz2⟩ := info_parts info_edge
   refine rangeFunc_edges (q := 12) (gf := 125) (lb := #[.pointer (some ⟨lb + 1, 0, none⟩)]) rfl (enters_of Tryz.func125 (by kernel_rfl) rfl) (GotAt w sc lb) 163880 (sc + 1) sc (allE f sums (1 + f.f1 + f.f2) f.f3.length).1 (Nat.lt_succ_self _) (by omega)
    (fun pre X X' hk h => h.kept hsN hlsc hk) (fun pre X k o o' h hk ho hc => h.put (by omega) ho hc) ⟨_, HK6.out, OwnRow.none_ _ _ _ _ _, hbW⟩ ?hseq ?assign ?body ?done
   case hseq =>
    intro l T X hbX hkT hY hT
    have h := iter_any l (lb + 1) sc (sc + 1) 163880 w.heap.size T hkT hY (Nat.lt_succ_self _) hsN f A3 c3 SA sums sl (1 + f.f1 + f.f2) w X (hbW.trans (hbX.mono hbW.size)) rfl ((hbX.block _ (blk_lt HN7.out)).trans HN7.out) ((hbX.block _ (blk_lt hS6)).trans hS6) HC0.out HS.out HTL.out h1 HOK.out (by omega) hn (by omega) hT
    refine callsIn_wide.2 (h.mono ?_)
    rintro r X' ⟨rfl, h, _⟩
    exact ⟨⟨_, rfl⟩, h⟩
   case assign =>
    intro l e X K hK
    unfold edgV at hK ⊢
    simp only [List.setIfInBounds_toArray, List.set_cons_zero, List.set_cons_succ] at hK ⊢
    gi_wp2
    exact hK
   case body =>
    rintro l pre e X bx ⟨v, hbk, ⟨inner, ho, hr⟩, hBX⟩ hlen hbx he
    unfold edgV
    simp only [List.setIfInBounds_toArray, List.set_cons_zero, List.set_cons_succ]
    have HBK := Lib.hid hbk
    have HO := Lib.hid ho
    have HRp := Lib.hid hr
    have HBX := Lib.hid hBX
    have c0 := blk_cell hbk 0
    have z0 := blk_frozen hbk 0
    have e0 := blk_cell he 0
    have e1 := blk_cell he 1
    have e2 := blk_cell he 2
    simp only [List.getElem?_toArray, List.getElem?_cons_succ, List.getElem?_cons_zero] at c0 e0 e1 e2
    have hsz := HBX.out.size
    have hbs : sc + 1 ≤ X.heap.size := by have := blk_lt hbk; omega
    have hnews := World.news_of_block (heap_alloc_new X (.cells #[.int .i64 e.f0, .int .i64 e.f1, .int .i64 e.f2] 144))
    clear hbk ho hr hBX he
    gi_wp2_with (first | (gi_at_builtin; refine wpListIn_append_own _ rfl (.tmp 71) (.tmp 73) 83 rfl (sc + 1) 144 i0 _ 3 24 Tryz.underlying83 hi0 hz0 hz1 hz2 rfl (by decide) v pre.length inner rfl (HO.out.alloc _) ⟨X.heap.size, 0, none⟩ 1 1 [.int .i64 e.f0, .int .i64 e.f1, .int .i64 e.f2] rfl rfl hnews (by intro u hu; simp at hu; rcases hu with rfl | rfl | rfl <;> rfl) (by simp only [maxLen]; omega) (by omega) (by simp; omega) ?_; intro v' w1 hown' hgrow _; obtain ⟨A', c', rfl⟩ := own_slice hown'; have hm := GotAt.more (w := w) (e := e) hsN hlsc HBK.out HO.out HRp.out HBX.out hown' hgrow; have hk1 := ((World.grownBy.trans (World.grownBy_alloc X _ _) hgrow).block _ (blk_lt HBK.out) (own_ne HO.out HBK.out (by decide))).trans HBK.out; have z1 := blk_frozen hk1 0; have c1 := blk_cell hk1 0; simp only [List.getElem?_toArray, List.getElem?_cons_zero] at c1; have HM := Lib.hid hm; clear hm hown' hgrow hk1))
    exact HM.out
   case done =>
    intro D X hI hD hK
    obtain ⟨v, hbk, hRE, hBX⟩ := got_edges hI hsN
    have hDp := put_below (o' := .deferred none) (show w.heap.size ≤ D by omega) hK
    have hRE2 := R_put_other hRE hK rfl (o' := .deferred none)
    have c0 := blk_cell hbk 0
    simp only [List.getElem?_toArray, List.getElem?_cons_zero] at c0
    have HRE := Lib.hid hRE2
    have HBX := Lib.hid (hBX.trans hDp)
    have HK := Lib.hid hK
    clear hI hRE hBX hRE2 hDp hK hbk
    go_wp2_with fail
    refine ⟨by simp, .inl ⟨_, _, rfl, run_takeDeferred HK.out, ?_⟩⟩
    exact ⟨_, results_tmp2 rfl _ _ _, .inl ⟨HFIT.out, v, rfl, HRE.out, HBX.out⟩⟩
set_option maxRecDepth 100000 in
set_option maxHeartbeats 6400000 in
theorem edges_not (G : Int) (A : Option Addr) (c : Nat) (fs : List Fun) (fi : Int) (SA : Option Addr) (m sl : Nat) (w : World) (hC : k66.C w A fs.length fs) (hlen : fs.length ≤ 2147483647)
  (hcode : ∀ f ∈ fs, f.f3.length ≤ 2147483646 ∧ ∀ x ∈ f.f3, x.f5.length ≤ 2147483647 ∧ x.f6.length ≤ 2147483647) (hbad : ¬ (rightB G fs fi = true ∧ m = fs.length)) :
  Calls Tryz.prog 42 #[.agg #[.int .i64 G, .slice A fs.length c], .int .i64 fi, .slice SA m sl] w fun e w' => e = .returned (.tuple #[.slice none 0 0, .int .i64 1]) ∧ Below w.heap.size w w' := by
 have HC := Lib.hid hC
 have HCODE := Lib.hid hcode
 have HBAD := Lib.hid hbad
 clear hC hcode hbad
 have hb0 := below1 w (.cells #[.int .i64 G, .slice A fs.length c] 24)
 have hn0 := alloc_new w (.cells #[.int .i64 G, .slice A fs.length c] 24)
 refine (callsIn_wide (n := 4)).1 (callsIn_of_wp_marks Tryz.func42 rfl trivial ?_ rfl)
 refine wpIn_wide.2 ?_
 simp only [Tryz.ntmps42, List.size_toArray, List.length_cons, List.length_nil, Nat.reduceAdd, Nat.reduceSub, Array.replicate_succ, Array.replicate_zero, List.push_toArray, List.append_toArray, List.nil_append, List.cons_append]
 go_upto_region 1 with (fail)
 obtain ⟨N, hN⟩ : ∃ N, w.heap.size = N := ⟨_, rfl⟩
 have HN := Lib.hid hN
 rw [hN] at hb0 hn0 ⊢
 clear hN
 generalize World.alloc _ _ = W at hb0 hn0 ⊢
 have HB := Lib.hid hb0
 have HP := Lib.hid hn0
 clear hb0 hn0
 have p1 := blk_cell HP.out 1
 have p0 := blk_cell HP.out 0
 simp only [List.getElem?_toArray, List.getElem?_cons_succ, List.getElem?_cons_zero] at p0 p1
 have HRT := Lib.hid (right_any G A c fs fi W (Kd.C_below HC.out (HN.out ▸ HB.out)) hlen HCODE.out)
 obtain ⟨rb, hrb⟩ : ∃ rb, rightB G fs fi = rb := ⟨_, rfl⟩
 rw [hrb] at HRT HBAD
 clear hrb
 cases rb with
 | false =>
  go_wp2_with fail
  refine HRT.out.mono ?_
  rintro e W1 ⟨rfl, hb⟩
  have HB1 := Lib.hid (HB.out.trans (hb.mono (HN.out ▸ HB.out.size)))
  clear hb p0 p1 HRT HB HP
  go_wp2_with fail
  refine ⟨_, results_tmp2 rfl _ _ _, rfl, HN.out ▸ HB1.out⟩
 | true =>
  go_wp2_with fail
  refine HRT.out.mono ?_
  rintro e W1 ⟨rfl, hb⟩
  have HP1 := Lib.hid ((hb.block _ (blk_lt HP.out)).trans HP.out)
  have HB1 := Lib.hid (HB.out.trans (hb.mono (HN.out ▸ HB.out.size)))
  clear hb p0 p1 HRT HB HP
  have p1 := blk_cell HP1.out 1
  simp only [List.getElem?_toArray, List.getElem?_cons_succ, List.getElem?_cons_zero] at p1
  have bne : ((m : Int) != (fs.length : Int)) = true := by
   have : m ≠ fs.length := fun h => HBAD.out ⟨by trivial, h⟩
   simp; omega
  go_wp2_with fail
  refine ⟨_, results_tmp2 rfl _ _ _, rfl, HN.out ▸ HB1.out⟩
end Go.Proofs.YtcbcacbbnojdjaaGreatDoor
