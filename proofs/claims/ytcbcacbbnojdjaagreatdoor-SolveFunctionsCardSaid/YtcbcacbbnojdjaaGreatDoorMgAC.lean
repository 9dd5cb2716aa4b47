/-
 Part AC of what the law's proof needs: walks of the program's functions and the plain laws of what they tell. No condition.
-/
import Derived.Test.YtcbcacbbnojdjaaGreatDoorMgX
import Derived.Test.YtcbcacbbnojdjaaGreatDoorMgAA
import Derived.Test.YtcbcacbbnojdjaaGreatDoorMgAB
import Derived.Test.YtcbcacbbnojdjaaGreatDoorMgS
namespace Go.Proofs.YtcbcacbbnojdjaaGreatDoor
open Go.RowKit Go.Maps Go.Proofs.YtcbcacbbnojdjaaGreatDoorW.PrintWords Go.Proofs.YtcbcacbbnojdjaaGreatDoorW.PrintLast Go.Proofs.YtcbcacbbnojdjaaGreatDoorW.PrintMore Go.Proofs.YtcbcacbbnojdjaaGreatDoor.PSolveFunctions
set_option linter.unusedVariables false
set_option linter.unusedSimpArgs false
theorem bools_C {W : World} {b : Nat} {l : List Bool} (h : BoolsAt W b l) (hl : l.length ≤ 9223372036854775807) : Kd.bool.C W (some ⟨b, 0, none⟩) l.length l := by
 refine ⟨rfl, hl, fun _ => ⟨_, rfl, fun j x hj => ⟨[.bool x], rfl, rfl, fun i u hu => ?_⟩⟩⟩
 have hi := (List.getElem?_eq_some_iff.1 hu).1
 obtain rfl : i = 0 := by simp at hi; exact hi
 obtain rfl : Value.bool x = u := by simpa using hu
 have hjl := (List.getElem?_eq_some_iff.1 hj).1
 rw [show (Addr.add ⟨b, 0, none⟩ (j * Kd.bool.sz + 0)) = ⟨b, j, none⟩ from (congrArg _ (show j * 1 + 0 = j by omega)).trans (add_at b j), h.at_ hjl, List.getD_eq_getElem?_getD, hj]
 rfl
theorem nums_C {W : World} {b : Nat} {l : List Int} (h : NumsAt W b l) (hl : l.length ≤ 9223372036854775807) : (Kd.int .i64).C W (some ⟨b, 0, none⟩) l.length l := by
 refine ⟨rfl, hl, fun _ => ⟨_, rfl, fun j x hj => ⟨[.int .i64 x], rfl, rfl, fun i u hu => ?_⟩⟩⟩
 have hi := (List.getElem?_eq_some_iff.1 hu).1
 obtain rfl : i = 0 := by simp at hi; exact hi
 obtain rfl : Value.int .i64 x = u := by simpa using hu
 have hjl := (List.getElem?_eq_some_iff.1 hj).1
 rw [show (Addr.add ⟨b, 0, none⟩ (j * (Kd.int .i64).sz + 0)) = ⟨b, j, none⟩ from (congrArg _ (show j * 1 + 0 = j by omega)).trans (add_at b j), h.at_ hjl, List.getD_eq_getElem?_getD, hj]
 rfl
theorem SumAt.heapC {W : World} {base hb ob r p : Nat} {bs : List Nat} {hs : List Int} {rows : List (List Int)} (h : SumAt W base hb ob r p bs hs rows) (hl : hs.length ≤ 8) : (Kd.int .i64).C W (some ⟨hb, 0, none⟩) hs.length hs := nums_C h.hn (by omega)
theorem SumAt.rowsC {W : World} {base hb ob r p : Nat} {bs : List Nat} {hs : List Int} {rows : List (List Int)} (h : SumAt W base hb ob r p bs hs rows) (hl : rows.length ≤ 8) (hr : r ≤ 4) (hrl : ∀ i, i < rows.length → (rows.getD i []).length = r) : (Kd.slice 3 (Kd.int .i64)).C W (some ⟨ob, 0, none⟩) rows.length rows := by
 refine ⟨rfl, by omega, fun _ => ⟨_, rfl, fun j x hj => ?_⟩⟩
 have hjl : j < rows.length := (List.getElem?_eq_some_iff.1 hj).1
 have hx : rows.getD j [] = x := by rw [List.getD_eq_getElem?_getD, hj]; rfl
 have hR := h.rw_ j hjl
 have hrj := hrl j hjl
 rw [hx] at hR hrj
 refine ⟨[hdr r (bs.getD j 0)], rfl, ⟨some ⟨bs.getD j 0, 0, none⟩, r, by rw [hrj], by omega, nums_C hR (by omega)⟩, fun i u hu => ?_⟩
 have hi := (List.getElem?_eq_some_iff.1 hu).1
 obtain rfl : i = 0 := by simp at hi; exact hi
 obtain rfl : hdr r (bs.getD j 0) = u := by simpa using hu
 have hjb : j < bs.length := by rw [h.lb]; exact hjl
 have hbc := blk_cell h.ho j
 rw [List.getElem?_toArray, List.getElem?_append_left (by rw [List.length_map]; exact hjb), List.getElem?_map, List.getElem?_eq_getElem hjb, Option.map_some] at hbc
 rw [show (Addr.add ⟨ob, 0, none⟩ (j * (Kd.slice 3 (Kd.int .i64)).sz + 0)) = ⟨ob, j, none⟩ from (congrArg _ (show j * 1 + 0 = j by omega)).trans (add_at ob j), hbc, List.getD_eq_getElem?_getD, List.getElem?_eq_getElem hjb]
 rfl
structure Tells (G : Int) (fs : List Fun) (sums : List Smm) (fi k : Int) (esc : List Bool) (hs : List Int) (rows : List (List Int)) : Prop where
 yes : Good G fs sums fi → FuncIs (fun_ fs fi) (edges_ fs sums fi) esc hs rows ∧ k = 0
 no : ¬ Good G fs sums fi → k = 1 ∧ esc = [] ∧ hs = [] ∧ rows = []
 le : esc.length ≤ 9223372036854775806
 lh : hs.length ≤ 9223372036854775806
 lw : rows.length ≤ 9223372036854775806
 lr : ∀ r ∈ rows, r.length ≤ 9223372036854775806
def answer (k : Int) (esc : List Bool) (hs : List Int) (rows : List (List Int)) (w : World) (e : Ending) (w' : World) : Prop :=
 ∃ A a A1 a1 A2 a2, e = .returned (.tuple #[.slice A esc.length a, .agg #[.slice A1 hs.length a1, .slice A2 rows.length a2], .int .i64 k]) ∧ Kd.bool.C w' A esc.length esc ∧ (Kd.int .i64).C w' A1 hs.length hs ∧ (Kd.slice 3 (Kd.int .i64)).C w' A2 rows.length rows ∧ Below w.heap.size w w'
theorem Tells.not {G : Int} {fs : List Fun} {sums : List Smm} {fi : Int} (h : ¬ Good G fs sums fi) : Tells G fs sums fi 1 [] [] [] :=
 ⟨fun g => absurd g h, fun _ => ⟨rfl, rfl, rfl, rfl⟩, by simp, by simp, by simp, by simp⟩
theorem answer_not {w w' : World} {e : Ending} (he : e = .returned (.tuple #[.slice none 0 0, .agg #[.slice none 0 0, .slice none 0 0], .int .i64 1])) (hb : Below w.heap.size w w') : answer 1 [] [] [] w e w' :=
 ⟨none, 0, none, 0, none, 0, he, ⟨rfl, by simp, fun h => absurd h (by simp)⟩, ⟨rfl, by simp, fun h => absurd h (by simp)⟩, ⟨rfl, by simp, fun h => absurd h (by simp)⟩, hb⟩
theorem func_all (G : Int) (A : Option Addr) (c : Nat) (fs : List Fun) (fi : Int) (SA : Option Addr) (sums : List Smm) (sl : Nat) (w : World) (hC : k66.C w A fs.length fs) (hcap : fs.length ≤ c) (hS : k34.C w SA sums.length sums) (hscap : sums.length ≤ sl) (hlen : fs.length ≤ 2147483647)
  (hcode : ∀ f ∈ fs, f.f3.length ≤ 2147483646 ∧ ∀ x ∈ f.f3, x.f5.length ≤ 2147483647 ∧ x.f6.length ≤ 2147483647) (hsm : ∀ s ∈ sums, s.f0.length ≤ 2147483646 ∧ ∀ r ∈ s.f1, r.length ≤ 2147483647) (htl : TellsAt w) :
  Calls Tryz.prog 11 #[.agg #[.int .i64 G, .slice A fs.length c], .int .i64 fi, .slice SA sums.length sl] w fun e w' => ∃ k esc hs rows, Tells G fs sums fi k esc hs rows ∧ answer k esc hs rows w e w' := by
 by_cases hg : Good G fs sums fi
 ·obtain ⟨⟨⟨h0, h1⟩, hfo⟩, hl, hfit⟩ := id hg
  obtain ⟨n, rfl⟩ : ∃ n : Nat, fi = n := ⟨fi.toNat, by omega⟩
  rw [Int.toNat_natCast] at hfo hfit
  have hH := hfo.hd
  have hr0 := hH.r0; have hr1 := hH.r1; have hp0 := hH.p0; have h8 := hH.p1; have hn1 := hH.n1; have hv1 := hH.v1
  have hp1 : (fs.getD n zF).f0 ≤ 8 := by split at h8 <;> omega
  refine (func_ok G A c fs n SA sums sl w hC hcap hS hscap hlen hcode hl hsm (by omega) _ rfl hfo hfit htl).mono fun e w' h => ?_
  obtain ⟨b, esc, hb, ob, bs, hs, rows, he, hwb, hB, hF, hSu, hBe⟩ := h
  obtain ⟨ress, h, hI⟩ := id hF
  have e1 := hI.hl; have e2 := hI.wl; have e3 := hI.rl; have e4 := hI.hp.len
  have hrl : ∀ i, i < rows.length → (rows.getD i []).length = (fs.getD n zF).f1.toNat := fun i hi => by rw [hI.wa i (by omega)]; omega
  have hle : locsF (fs.getD n zF) ≤ 9223372036854775806 := by
   have := calls_news (fs.getD n zF).f3 (fs.getD n zF).f3.length
   unfold locsF; omega
  refine ⟨0, esc, hs, rows, ⟨fun _ => ⟨by rw [fun_, edges_, fun_, Int.toNat_natCast]; exact hF, rfl⟩, fun hn => absurd hg hn, by omega, by omega, by omega, fun r hr => ?_⟩, some ⟨b, 0, none⟩, locsF (fs.getD n zF), some ⟨hb, 0, none⟩, (fs.getD n zF).f0.toNat, some ⟨ob, 0, none⟩, (fs.getD n zF).f0.toNat, ?_, bools_C hB (by omega), hSu.heapC (by omega), hSu.rowsC (by omega) (by omega) hrl, hBe⟩
  ·obtain ⟨i, hi, rfl⟩ := List.getElem_of_mem hr
   have := hrl i hi
   rw [List.getD_eq_getElem?_getD, List.getElem?_eq_getElem hi, Option.getD_some] at this
   omega
  ·rw [he, e4, show hs.length = (fs.getD n zF).f0.toNat by omega, show rows.length = (fs.getD n zF).f0.toNat by omega]
 ·refine (func_err G fi A fs.length c SA sums.length sl w (fun W hb => ?_)).mono fun e w' h => ⟨1, [], [], [], .not hg, answer_not h.1 h.2⟩
  have hCW := Kd.C_below hC hb
  by_cases hr : rightB G fs fi = true ∧ sums.length = fs.length
  ·obtain ⟨hfi, hfo⟩ := (rightB_iff G fs fi).1 hr.1
   refine (edges_all G A c fs fi SA sums sl W hCW hcap (Kd.C_below hS hb) hscap hlen hcode hr.2 hsm hfi _ rfl hfo (htl.below hb)).mono fun e w' h => ?_
   rcases h with ⟨hfit, _⟩ | ⟨_, he, hb⟩
   ·exact absurd ⟨⟨hfi, hfo⟩, hr.2, hfit⟩ hg
   ·exact ⟨he, hb⟩
  ·exact edges_not G A c fs fi SA sums.length sl W hCW hlen hcode hr
theorem funcR_all (G : Int) (A : Option Addr) (c : Nat) (fs : List Fun) (fi : Int) (SA : Option Addr) (sums : List Smm) (sl : Nat) (w : World) (hC : k66.C w A fs.length fs) (hS : k34.C w SA sums.length sums) (hlen : fs.length ≤ 2147483647)
  (hcode : ∀ f ∈ fs, f.f3.length ≤ 2147483646 ∧ ∀ x ∈ f.f3, x.f5.length ≤ 2147483647 ∧ x.f6.length ≤ 2147483647) (hsl : sums.length ≤ 2147483647) (hsm : ∀ s ∈ sums, s.f0.length ≤ 2147483646 ∧ ∀ r ∈ s.f1, r.length ≤ 2147483647)
  (k : Int) (esc : List Bool) (hs : List Int) (rows : List (List Int)) (ht : Tells G fs sums fi k esc hs rows) :
  Calls Tryz.prog 12 #[.agg #[.int .i64 G, .slice A fs.length c], .int .i64 fi, .slice SA sums.length sl] w (answer k esc hs rows w) := by
 refine (funcR_any G A c fs fi SA sums sl w hC hS hlen hcode hsl hsm esc hs rows (fun g => (ht.yes g).1)).mono fun e w' h => ?_
 rcases h with ⟨hg, ve, vh, vr, rfl, h1, h2, h3, hb⟩ | ⟨hg, he, hb⟩
 ·obtain ⟨A1, c1, rfl⟩ := Kd.R_slice h1
  obtain ⟨A2, c2, rfl⟩ := Kd.R_slice h2
  obtain ⟨A3, c3, rfl⟩ := Kd.R_slice h3
  obtain ⟨_, rfl⟩ := ht.yes hg
  exact ⟨A1, c1, A2, c2, A3, c3, rfl, (Kd.R_reads' h1).2.2, (Kd.R_reads' h2).2.2, (Kd.R_reads' h3).2.2, hb⟩
 ·obtain ⟨rfl, rfl, rfl, rfl⟩ := ht.no hg
  exact answer_not he hb
section
variable {W : Nat → Prop} {w w' : World}
theorem keep_cell {a : Addr} {v : Value} (hk : w'.heap[a.block]? = w.heap[a.block]?) (h : w.cell? a = some v) : w'.cell? a = some v := (World.cell?_of_block hk).trans h
theorem IntsV.keep (hk : ∀ k, W k → w'.heap[k]? = w.heap[k]?) {v : Value} (h : IntsV W w v) : IntsV W w' v := by
 obtain ⟨A, n, c, e, h1, h2, h3⟩ := h
 refine ⟨A, n, c, e, h1, h2, fun h0 => ?_⟩
 obtain ⟨g, e, hg, hc⟩ := h3 h0
 exact ⟨g, e, hg, fun j hj => by obtain ⟨i, hi⟩ := hc j hj; exact ⟨i, keep_cell (hk g hg) hi⟩⟩
theorem CodeV.keep (hk : ∀ k, W k → w'.heap[k]? = w.heap[k]?) {v : Value} (h : CodeV W w v) : CodeV W w' v := by
 obtain ⟨A, n, c, e, h1, h2, h3⟩ := h
 refine ⟨A, n, c, e, h1, h2, fun h0 => ?_⟩
 obtain ⟨g, e, hg, hc⟩ := h3 h0
 refine ⟨g, e, hg, fun k hk2 => ⟨fun i hi => ?_, ?_, ?_⟩⟩
 ·obtain ⟨x, hx⟩ := (hc k hk2).ints i hi
  exact ⟨x, keep_cell (hk g hg) hx⟩
 ·obtain ⟨v, hv, hi⟩ := (hc k hk2).args
  exact ⟨v, keep_cell (hk g hg) hv, hi.keep hk⟩
 ·obtain ⟨v, hv, hi⟩ := (hc k hk2).rets
  exact ⟨v, keep_cell (hk g hg) hv, hi.keep hk⟩
theorem FunV.keep {b j : Nat} (hk : ∀ k, W k → w'.heap[k]? = w.heap[k]?) (hb : w'.heap[b]? = w.heap[b]?) (h : FunV W w b j) : FunV W w' b j := by
 refine ⟨fun i hi => ?_, ?_⟩
 ·obtain ⟨x, hx⟩ := h.ints i hi
  exact ⟨x, keep_cell hb hx⟩
 ·obtain ⟨v, hv, hi⟩ := h.code
  exact ⟨v, keep_cell hb hv, hi.keep hk⟩
theorem RowsV.keep (hk : ∀ k, W k → w'.heap[k]? = w.heap[k]?) {v : Value} (h : RowsV W w v) : RowsV W w' v := by
 obtain ⟨A, n, c, e, h1, h2, h3⟩ := h
 refine ⟨A, n, c, e, h1, h2, fun h0 => ?_⟩
 obtain ⟨g, e, hg, hc⟩ := h3 h0
 exact ⟨g, e, hg, fun j hj => by obtain ⟨i, hi, hv⟩ := hc j hj; exact ⟨i, keep_cell (hk g hg) hi, hv.keep hk⟩⟩
theorem SumV.keep {b j : Nat} (hk : ∀ k, W k → w'.heap[k]? = w.heap[k]?) (hb : w'.heap[b]? = w.heap[b]?) (h : SumV W w b j) : SumV W w' b j := by
 refine ⟨?_, ?_⟩
 ·obtain ⟨v, hv, hi⟩ := h.heap
  exact ⟨v, keep_cell hb hv, hi.keep hk⟩
 ·obtain ⟨v, hv, hi⟩ := h.rows
  exact ⟨v, keep_cell hb hv, hi.keep hk⟩
theorem Wrote.keep {L : Value → Value → Prop} {w0 : World} (h : Wrote W L w0 w) (hk : ∀ k, W k → w'.heap[k]? = w.heap[k]?) : Wrote W L w0 w' := fun k hw => by
 obtain ⟨cs, cs', e, h1, h2, h3⟩ := h k hw
 exact ⟨cs, cs', e, h1, (hk k hw).trans h2, h3⟩
end
theorem FunB.all {fs : List Fun} (h : ∀ f ∈ fs, FunB f) : ∀ f ∈ fs, f.f3.length ≤ 2147483646 ∧ ∀ x ∈ f.f3, x.f5.length ≤ 2147483647 ∧ x.f6.length ≤ 2147483647 :=
 fun f hf => ⟨(h f hf).1, fun x hx => by have := (h f hf).2 x hx; unfold InsB at this; omega⟩
theorem FunB.small {fs : List Fun} (h : ∀ f ∈ fs, FunB f) : ∀ f ∈ fs, f.f3.length ≤ 2147483647 ∧ ∀ x ∈ f.f3, SmallI x :=
 fun f hf => ⟨by have := (h f hf).1; omega, fun x hx => by have := (h f hf).2 x hx; unfold InsB at this; unfold SmallI; omega⟩
theorem SumB.all {ss : List Smm} (h : ∀ s ∈ ss, SumB s) : ∀ s ∈ ss, s.f0.length ≤ 2147483646 ∧ ∀ r ∈ s.f1, r.length ≤ 2147483647 :=
 fun s hs => ⟨(h s hs).1, fun r hr => by have := (h s hs).2.2 r hr; omega⟩
theorem SumB.small {ss : List Smm} (h : ∀ s ∈ ss, SumB s) : ∀ s ∈ ss, SmallSm s :=
 fun s hs => ⟨by have := (h s hs).1; omega, by have := (h s hs).2.1; omega, fun r hr => by have := (h s hs).2.2 r hr; omega⟩
structure Laid (G : Int) (N K b b2 : Nat) (A : Option Addr) (c qc ic : Nat) (fs : List Fun) (ss : List Smm) (SA : Option Addr) (w W5 : World) : Prop where
 bel : Below N w W5
 p : W5.heap[N]? = some (.cells #[.int .i64 G, .slice A fs.length c] 24 (0, 0))
 q : W5.heap[K]? = some (.cells #[.int .i64 G, .slice (some ⟨b, 0, none⟩) fs.length qc] 24 (0, 0))
 hC : k66.C W5 A fs.length fs
 hS : k34.C W5 SA ss.length ss
 hQ : kSpF.C W5 (some ⟨b, 0, none⟩) (fs.length + 64) (spareF fs 64)
 hI : kSpS.C W5 (some ⟨b2, 0, none⟩) (ss.length + 64) (spareS ss 64)
 qc_ : fs.length + 64 ≤ qc
 ic_ : ss.length + 64 ≤ ic
 tl : TellsAt w
structure Turns (N K b b2 lo lo2 : Nat) (n m : Nat) (W W2 : Nat → Prop) (W5 : World) : Prop where
 nl : N < lo
 lk : lo ≤ K
 bk : b < K
 kl : K < lo2
 w1 : ∀ k, W k → lo ≤ k ∧ k < K ∧ k ≠ b ∧ ∃ cs e, W5.heap[k]? = some (.cells cs e (0, 0))
 w2 : ∀ k, W2 k → lo2 ≤ k ∧ k < W5.heap.size ∧ k ≠ b2 ∧ ∃ cs e, W5.heap[k]? = some (.cells cs e (0, 0))
 b2l : lo2 ≤ b2
 b2h : b2 < W5.heap.size
 hf : ∀ j, j < n → FunV W W5 b j
 hs : ∀ j, j < m → SumV W2 W5 b2 j
section
variable {N K b b2 lo lo2 n m : Nat} {W W2 : Nat → Prop} {W5 wt wu wv : World}
theorem Turns.sim1 (T : Turns N K b b2 lo lo2 n m W W2 W5) (hb : Below W5.heap.size W5 wt) : lo ≤ wt.heap.size ∧ ¬ W b ∧ (∀ j, j < n → FunV W wt b j) ∧ Sim W (Like2 W wt) lo wt wt := by
 have hs := hb.size
 have e := T.lk; have e2 := T.kl; have e3 := T.b2l; have e4 := T.b2h; have e5 := T.bk
 have hk : ∀ k, W k → wt.heap[k]? = W5.heap[k]? := fun k hk => hb.block k (by have := T.w1 k hk; omega)
 refine ⟨by omega, fun h => (T.w1 b h).2.2.1 rfl, fun j hj => (T.hf j hj).keep hk (hb.block b (by omega)), Sim.start (fun v => .inr (.inr rfl)) (fun k hk => (T.w1 k hk).1) (fun k h => ?_)⟩
 obtain ⟨cs, e, hc⟩ := (T.w1 k h).2.2.2
 exact ⟨cs, e, (hk k h).trans hc⟩
theorem Turns.sim2 (T : Turns N K b b2 lo lo2 n m W W2 W5) (hb : Below W5.heap.size W5 wt) (s1 : Sim W (Like2 W wt) lo wt wu) : lo2 ≤ wu.heap.size ∧ ¬ W2 b2 ∧ (∀ j, j < m → SumV W2 wu b2 j) ∧ Sim W2 Like1 lo2 wu wu := by
 have hs := hb.size
 have hs1 := s1.big
 have e := T.lk; have e2 := T.kl; have e3 := T.b2l; have e4 := T.b2h; have e5 := T.bk
 have hq : ∀ k, K ≤ k → k < W5.heap.size → wu.heap[k]? = W5.heap[k]? := fun k h1 h2 => (s1.off k (by omega) (fun hw => by have := T.w1 k hw; omega)).trans (hb.block k h2)
 have hk : ∀ k, W2 k → wu.heap[k]? = W5.heap[k]? := fun k hk => hq k (by have := T.w2 k hk; omega) (T.w2 k hk).2.1
 refine ⟨by omega, fun h => (T.w2 b2 h).2.2.1 rfl, fun j hj => (T.hs j hj).keep hk (hq b2 (by omega) e4), Sim.start (fun v => .inr rfl) (fun k hk => (T.w2 k hk).1) (fun k h => ?_)⟩
 obtain ⟨cs, e, hc⟩ := (T.w2 k h).2.2.2
 exact ⟨cs, e, (hk k h).trans hc⟩
theorem Turns.read {G : Int} {A : Option Addr} {c qc ic : Nat} {fs : List Fun} {ss : List Smm} {SA : Option Addr} {w : World} (T : Turns N K b b2 lo lo2 fs.length ss.length W W2 W5) (L : Laid G N K b b2 A c qc ic fs ss SA w W5) (hN : w.heap.size = N) (hn : fs.length ≤ 2147483647) (hm : ss.length ≤ 2147483647) (hb : Below W5.heap.size W5 wt) (s1 : Sim W (Like2 W wt) lo wt wu) (s2 : Sim W2 Like1 lo2 wu wv) :
  ∃ (gs : List Fun) (ts : List Smm), gs.length = fs.length ∧ ts.length = ss.length ∧ k66.C wv (some ⟨b, 0, none⟩) fs.length gs ∧ k34.C wv (some ⟨b2, 0, none⟩) ss.length ts ∧ (∀ f ∈ gs, FunB f) ∧ (∀ s ∈ ts, SumB s) ∧ TellsAt wv ∧ Below N w wv ∧
   wv.heap[N]? = some (.cells #[.int .i64 G, .slice A fs.length c] 24 (0, 0)) ∧ wv.heap[K]? = some (.cells #[.int .i64 G, .slice (some ⟨b, 0, none⟩) fs.length qc] 24 (0, 0)) := by
 have hs := hb.size
 have hs1 := s1.big
 have e := T.lk; have e2 := T.kl; have e3 := T.b2l; have e4 := T.b2h; have e5 := T.bk; have e6 := T.nl
 obtain ⟨hl1, hnb, hFV, _⟩ := T.sim1 hb
 obtain ⟨hl2, hnb2, hSV, _⟩ := T.sim2 hb s1
 have h2 : ∀ k, k < lo2 → wv.heap[k]? = wu.heap[k]? := fun k hk => s2.bel.block k hk
 have h1 : ∀ k, k < W5.heap.size → ¬ W k → wu.heap[k]? = W5.heap[k]? := fun k hk hw => (s1.off k (by omega) hw).trans (hb.block k hk)
 have hB : Below N w wv := L.bel.trans ((hb.mono (by omega)).trans ((s1.bel.mono (by omega)).trans (s2.bel.mono (by omega))))
 obtain ⟨gs, hgl, hgC, hgB⟩ := funs_read (s1.wr.keep (fun k hk => h2 k (by have := T.w1 k hk; omega))) hn ((h2 b (by omega)).trans (s1.off b (by omega) hnb)) hFV
 obtain ⟨ts, htl, htC, htB⟩ := sums_read s2.wr hm (s2.off b2 (by omega) hnb2) hSV
 refine ⟨gs, ts, hgl, htl, hgC, htC, hgB, htB, ?_, hB, ?_, ?_⟩
 ·exact L.tl.below (hN ▸ hB)
 ·exact (h2 N (by omega)).trans ((h1 N (by omega) (fun hw => by have := T.w1 N hw; omega)).trans L.p)
 ·exact (h2 K (by omega)).trans ((h1 K (by omega) (fun hw => by have := T.w1 K hw; omega)).trans L.q)
end
set_option maxRecDepth 100000 in
set_option maxHeartbeats 12800000 in
theorem funcs_law (G odd : Int) (A : Option Addr) (c : Nat) (fs : List Fun) (SA : Option Addr) (ss : List Smm) (sl : Nat) (w : World) (hC : k66.C w A fs.length fs) (hcap : fs.length ≤ c) (hS : k34.C w SA ss.length ss) (hscap : ss.length ≤ sl)
  (hlf : fs.length ≤ 17592186044416) (hrf : ∀ f ∈ fs, ReachF f) (hls : ss.length ≤ 17592186044416) (hrs : ∀ s ∈ ss, ReachS s) (htl : TellsAt w) :
  Calls Tryz.prog 3 #[.agg #[.int .i64 G, .slice A fs.length c], .slice SA ss.length sl, .int .i64 odd] w fun e w' => e = .returned (.bool true) ∧ Below w.heap.size w w' := by
 have HLG := Lib.hid (fun (W : World) (hb : Below w.heap.size w W) => long_any G A c fs W (Kd.C_below hC hb) hlf hrf)
 have HLS := Lib.hid (fun (W : World) (hb : Below w.heap.size w W) => longSums_any SA sl ss W (Kd.C_below hS hb) hls hrs)
 have HC := Lib.hid hC
 have HS := Lib.hid hS
 have HTL := Lib.hid htl
 clear hC hS htl hrf hrs
 go_enter Tryz.func3, Tryz.ntmps3
 go_upto_region 1 with (fail)
 have hb1 := below1 w (.cells #[.int .i64 G, .slice A fs.length c] 24)
 have hn1 := alloc_new w (.cells #[.int .i64 G, .slice A fs.length c] 24)
 have HL1 := Lib.hid (HLG.out _ hb1)
 obtain ⟨N, hN⟩ : ∃ N, w.heap.size = N := ⟨_, rfl⟩
 have HN := Lib.hid hN
 rw [hN] at hb1 hn1 ⊢
 clear hN HLG
 generalize World.alloc _ _ = W1 at hb1 hn1 HL1 ⊢
 have HB1 := Lib.hid hb1
 have HP1 := Lib.hid hn1
 have c0 := blk_cell hn1 0
 have c1 := blk_cell hn1 1
 simp only [List.getElem?_toArray, List.getElem?_cons_succ, List.getElem?_cons_zero] at c0 c1
 clear hb1 hn1
 go_wp2_with fail
 refine HL1.out.mono ?_
 rintro e W2 ⟨q1, rfl, hb2, hF⟩
 have HP2 := Lib.hid ((hb2.block _ (blk_lt HP1.out)).trans HP1.out)
 have HB2 := Lib.hid (HB1.out.trans (hb2.mono (Nat.le_of_lt (blk_lt HP1.out))))
 clear hb2 HL1 HB1 HP1 c0 c1
 cases q1 with
 | true =>
  go_wp2_with fail
  go_ret
  exact ⟨rfl, by rw [HN.out]; exact HB2.out⟩
 | false =>
  obtain ⟨hl1, hf1⟩ := hF rfl
  have HF1 := Lib.hid hf1
  have HL2 := Lib.hid (HLS.out W2 (HN.out.symm ▸ HB2.out))
  clear hF hf1 HLS
  go_wp2_with fail
  refine HL2.out.mono ?_
  rintro e W3 ⟨q2, rfl, hb3, hF⟩
  have HP3 := Lib.hid ((hb3.block _ (blk_lt HP2.out)).trans HP2.out)
  have HB3 := Lib.hid (HB2.out.trans (hb3.mono (Nat.le_of_lt (blk_lt HP2.out))))
  clear hb3 HL2 HB2 HP2
  cases q2 with
  | true =>
   go_wp2_with fail
   go_ret
   exact ⟨rfl, by rw [HN.out]; exact HB3.out⟩
  | false =>
   obtain ⟨hl2, hs1⟩ := hF rfl
   have HS1 := Lib.hid hs1
   have HSP := Lib.hid (spare_any G A c fs W3 (Kd.C_below HC.out (HN.out.symm ▸ HB3.out)) (by omega) (FunB.small HF1.out))
   have c0 := blk_cell HP3.out 0
   have c1 := blk_cell HP3.out 1
   simp only [List.getElem?_toArray, List.getElem?_cons_succ, List.getElem?_cons_zero] at c0 c1
   clear hF hs1
   go_wp2_with fail
   refine HSP.out.mono ?_
   rintro e W4 ⟨QA, qc, rfl, hQ, hb4⟩
   obtain ⟨b, hQA, hbl, hbh, hqc, hfv⟩ := funs_V hQ HF1.out
   subst hQA
   have hQC := (Kd.R_reads' (Kd.S_R hQ)).2.2
   rw [spareF_length] at hQC
   have HQ := Lib.hid (And.intro hbl (And.intro hbh (And.intro hqc (And.intro hfv (And.intro hQC hb4)))))
   clear c0 c1 hQ hQC hbl hbh hqc hfv hb4 HSP
   go_upto_region 4 with (fail)
   have hb5 := below1 W4 (.cells #[.int .i64 G, .slice (some ⟨b, 0, none⟩) fs.length qc] 24)
   have hn5 := alloc_new W4 (.cells #[.int .i64 G, .slice (some ⟨b, 0, none⟩) fs.length qc] 24)
   obtain ⟨K, hK⟩ : ∃ K, W4.heap.size = K := ⟨_, rfl⟩
   have HK := Lib.hid hK
   rw [hK] at hb5 hn5 ⊢
   clear hK
   generalize World.alloc _ _ = W5 at hb5 hn5 ⊢
   have HB5 := Lib.hid hb5
   have HN5 := Lib.hid hn5
   have HX5 := Lib.hid (show Below N w W5 from HB3.out.trans ((HQ.out.2.2.2.2.2.trans (hb5.mono (by have := HK.out; have := HQ.out.2.2.2.2.2.size; omega))).mono (by have := blk_lt HP3.out; omega)))
   clear hb5 hn5
   have HSS := Lib.hid (spareSums_any SA sl ss W5 (Kd.C_below HS.out (HN.out.symm ▸ HX5.out)) (by omega) (SumB.small HS1.out))
   go_wp2_with fail
   refine HSS.out.mono ?_
   rintro e W6 ⟨IA, ic, rfl, hI, hb6⟩
   obtain ⟨b2, hIA, hbl2, hbh2, hic, hsv⟩ := sums_V hI HS1.out
   subst hIA
   have hIC := (Kd.R_reads' (Kd.S_R hI)).2.2
   rw [spareS_length] at hIC
   have hQ4 := HQ.out
   have hk := HK.out
   have hz4 := hQ4.2.2.2.2.2.size
   have hz5 := blk_lt HN5.out
   have hN3 := blk_lt HP3.out
   have h46 : Below K W4 W6 := HB5.out.trans (hb6.mono (by omega))
   have h36 : Below W3.heap.size W3 W6 := hQ4.2.2.2.2.2.trans (h46.mono (by omega))
   have hx6 : Below N w W6 := HB3.out.trans (h36.mono (by omega))
   have HL := Lib.hid (show Laid G N K b b2 A c qc ic fs ss SA w W6 from ⟨hx6, (h36.block _ hN3).trans HP3.out, (hb6.block _ hz5).trans HN5.out, Kd.C_below HC.out (HN.out.symm ▸ hx6), Kd.C_below HS.out (HN.out.symm ▸ hx6), Kd.C_below hQ4.2.2.2.2.1 (by rw [hk]; exact h46), hIC, hQ4.2.2.1, hic, HTL.out⟩)
   have hT : ∃ (lo lo2 : Nat) (V V2 : Nat → Prop), Turns N K b b2 lo lo2 fs.length ss.length V V2 W6 := by
    refine ⟨W3.heap.size, W5.heap.size, Own W3.heap.size b W4, Own W5.heap.size b2 W6, hN3, by omega, by omega, hz5, fun k hk' => ?_, fun k hk' => hk', hbl2, hbh2, fun j hj => (hQ4.2.2.2.1 j hj).keep (fun k hk' => h46.block k (by have := hk'.2.1; omega)) (h46.block b (by omega)), hsv⟩
    obtain ⟨h1, h2, h3, cs, e, h4⟩ := hk'
    exact ⟨h1, by omega, h3, cs, e, (h46.block k (by omega)).trans h4⟩
   obtain ⟨lo, lo2, V, V2, hT⟩ := hT
   have HT := Lib.hid hT
   clear hT hx6 h36 h46 hN3 hz5 hz4 hk hQ4 hIC hbl2 hbh2 hic hsv hI hb6 HSS HX5 HN5 HB5 HK HQ HP3 HB3
   have hNM : N < W6.heap.size := blk_lt HL.out.p
   have hKM : K < W6.heap.size := blk_lt HL.out.q
   have HCQ := Lib.hid (spareF_plain HL.out.hQ)
   have HCI := Lib.hid (spareS_plain HL.out.hI)
   go_wp2_with fail
   go_loopw [9] (fun i wr => ∃ j : Int, -1 ≤ j ∧ j ≤ fs.length + 2 ∧ i = .int .i64 j ∧ Below W6.heap.size W6 wr) (fun i _ => ((fs.length : Int) + 2 - intOf i).toNat)
   case atStart => exact ⟨-1, by omega, by omega, rfl, Below.refl _ _⟩
   case round =>
    obtain ⟨j, hj0, hj1, rfl, hb⟩ := hrel
    have HB := Lib.hid hb
    have hp := (hb.block N hNM).trans HL.out.p
    have hq := (hb.block K hKM).trans HL.out.q
    have hbw : Below w.heap.size w wr := by rw [HN.out]; exact HL.out.bel.trans (hb.mono (by omega))
    have HBW := Lib.hid hbw
    have HF := Lib.hid (fun m : Int => func_all G (some ⟨b, 0, none⟩) qc fs m (some ⟨b2, 0, none⟩) ss ic wr (Kd.C_below HCQ.out hb) (by have := HL.out.qc_; omega) (Kd.C_below HCI.out hb) (by have := HL.out.ic_; omega) (by omega) (FunB.all HF1.out) (SumB.all HS1.out) (HTL.out.below hbw))
    have c0 := blk_cell hp 0
    have c1 := blk_cell hp 1
    have d0 := blk_cell hq 0
    have d1 := blk_cell hq 1
    simp only [List.getElem?_toArray, List.getElem?_cons_succ, List.getElem?_cons_zero] at c0 c1 d0 d1
    clear hp hq hb hbw
    by_cases hlt : j ≤ fs.length + 1
    ·by_cases hgt : (fs.length : Int) < j
     all_goals
      go_upto_region 11 with (fail)
      go_wp2_with fail
      refine (HF.out _).mono ?_
      rintro e w3 ⟨k, esc, hs, rows, ht, A1, a1, A2, a2, A3, a3, rfl, hx1, hx2, hx3, hb3⟩
      have HTT := Lib.hid ht
      clear c0 c1 d0 d1 HF ht
      go_upto_region 12 with (fail)
      have hb4 := below1 w3 (.cells #[.slice A2 hs.length a2, .slice A3 rows.length a3] 34)
      have hn4 := alloc_new w3 (.cells #[.slice A2 hs.length a2, .slice A3 rows.length a3] 34)
      have HX := Lib.hid (And.intro (Kd.C_below hx1 hb4) (And.intro (Kd.C_below hx2 hb4) (Kd.C_below hx3 hb4)))
      have HB4 := Lib.hid (HB.out.trans ((hb3.trans (hb4.mono hb3.size)).mono HB.out.size))
      obtain ⟨m1, hm1⟩ : ∃ m1, w3.heap.size = m1 := ⟨_, rfl⟩
      rw [hm1] at hn4 ⊢
      clear hm1 hx1 hx2 hx3 hb3 hb4
      generalize World.alloc _ _ = w4 at hn4 HX HB4 ⊢
      have HM4 := Lib.hid hn4
      have hp := (HB4.out.block N hNM).trans HL.out.p
      have c0 := blk_cell hp 0
      have c1 := blk_cell hp 1
      simp only [List.getElem?_toArray, List.getElem?_cons_succ, List.getElem?_cons_zero] at c0 c1
      have hbw : Below w.heap.size w w4 := by rw [HN.out]; exact HL.out.bel.trans (HB4.out.mono (by omega))
      have HR := Lib.hid (funcR_all G A c fs _ SA ss sl w4 (Kd.C_below HC.out hbw) (Kd.C_below HS.out hbw) (by omega) (FunB.all HF1.out) (by omega) (SumB.all HS1.out) k esc hs rows HTT.out)
      clear hn4 hp hbw
      go_wp2_with fail
      refine HR.out.mono ?_
      rintro e w5 ⟨B1, b1, B2, b2', B3, b3, rfl, hy1, hy2, hy3, hb5⟩
      clear c0 c1 HR
      go_upto_region 13 with (fail)
      have hb6 := below1 w5 (.cells #[.slice B2 hs.length b2', .slice B3 rows.length b3] 34)
      have hn6 := alloc_new w5 (.cells #[.slice B2 hs.length b2', .slice B3 rows.length b3] 34)
      have h46 := hb5.trans (hb6.mono hb5.size)
      have HY := Lib.hid (And.intro (Kd.C_below hy1 hb6) (And.intro (Kd.C_below hy2 hb6) (Kd.C_below hy3 hb6)))
      have HX6 := Lib.hid (And.intro (Kd.C_below HX.out.1 h46) (And.intro (Kd.C_below HX.out.2.1 h46) (Kd.C_below HX.out.2.2 h46)))
      have HM6 := Lib.hid ((h46.block _ (blk_lt HM4.out)).trans HM4.out)
      have HB6 := Lib.hid (HB4.out.trans (h46.mono HB4.out.size))
      obtain ⟨m2, hm2⟩ : ∃ m2, w5.heap.size = m2 := ⟨_, rfl⟩
      rw [hm2] at hn6 ⊢
      clear hm2 hy1 hy2 hy3 hb5 hb6 h46 HX HM4 HB4
      generalize World.alloc _ _ = w6 at hn6 HY HX6 HM6 HB6 ⊢
      have HN6 := Lib.hid hn6
      have hne : (k != k) = false := bne_self_eq_false k
      have HE1 := Lib.hid (eqBools_yes A1 a1 B1 b1 esc w6 HX6.out.1 HY.out.1 HTT.out.le)
      clear hn6
      go_wp2_with fail
      refine HE1.out.mono ?_
      rintro e w7 ⟨rfl, nd, rfl⟩
      have hd := pw_below_drewN HB6.out nd
      have h67 : Below w6.heap.size w6 (w6.drewN nd) := pw_below_drewN (Below.refl _ _) nd
      have HE2 := Lib.hid (eqSummary_yes A2 a2 B2 b2' hs A3 a3 B3 b3 rows (w6.drewN nd) (Kd.C_below HX6.out.2.1 h67) (Kd.C_below HY.out.2.1 h67) (Kd.C_below HX6.out.2.2 h67) (Kd.C_below HY.out.2.2 h67) HTT.out.lh HTT.out.lw HTT.out.lr)
      have s0 := blk_cell (show (w6.drewN nd).heap[m1]? = _ from HM6.out) 0
      have s1 := blk_cell (show (w6.drewN nd).heap[m1]? = _ from HM6.out) 1
      have t0 := blk_cell (show (w6.drewN nd).heap[m2]? = _ from HN6.out) 0
      have t1 := blk_cell (show (w6.drewN nd).heap[m2]? = _ from HN6.out) 1
      simp only [List.getElem?_toArray, List.getElem?_cons_succ, List.getElem?_cons_zero] at s0 s1 t0 t1
      have HD := Lib.hid hd
      clear hd h67 HE1 hne
      generalize w6.drewN nd = w7 at HD HE2 s0 s1 t0 t1 ⊢
      go_wp2_with fail
      refine HE2.out.mono ?_
      rintro e w8 ⟨rfl, hb8⟩
      have HB8 := Lib.hid (HD.out.trans (hb8.mono HD.out.size))
      clear hb8 s0 s1 t0 t1 HE2 HD
      go_wp2_with fail
      go_roundw
      case rel => exact ⟨j + 1, by omega, by omega, by go_num, HB8.out⟩
      case measure => simp [intOf]; omega
    ·obtain rfl : j = fs.length + 2 := by omega
     have hwc : W6.heap.size ≤ wr.heap.size := HB.out.size
     have HST := Lib.hid (staySums_any wr (some ⟨b2, 0, none⟩) ic SA sl ss (Kd.C_below HL.out.hI HB.out) HL.out.ic_ (Kd.C_below HS.out HBW.out) (by omega) (SumB.small HS1.out))
     clear HF d0 d1
     go_wp2_with fail
     clear c0 c1
     refine HST.out.mono ?_
     rintro e w2 ⟨rfl, hb2⟩
     have HB2 := Lib.hid (HB.out.trans (hb2.mono hwc))
     have hp := (HB2.out.block N hNM).trans HL.out.p
     have hq := (HB2.out.block K hKM).trans HL.out.q
     have c0 := blk_cell hp 0
     have c1 := blk_cell hp 1
     have d0 := blk_cell hq 0
     have d1 := blk_cell hq 1
     simp only [List.getElem?_toArray, List.getElem?_cons_succ, List.getElem?_cons_zero] at c0 c1 d0 d1
     have hbw : Below w.heap.size w w2 := by rw [HN.out]; exact HL.out.bel.trans (HB2.out.mono (by omega))
     have HSY := Lib.hid (stays_any G w2 (some ⟨b, 0, none⟩) qc A c fs (Kd.C_below HL.out.hQ HB2.out) HL.out.qc_ (Kd.C_below HC.out hbw) (by omega) (FunB.small HF1.out))
     clear hp hq hb2 hbw hwc HST HB HBW
     go_wp2_with fail
     refine HSY.out.mono ?_
     rintro e w3 ⟨rfl, hb3⟩
     have HB3 := Lib.hid (HB2.out.trans (hb3.mono HB2.out.size))
     have hq := (HB3.out.block K hKM).trans HL.out.q
     clear c0 c1 d0 d1
     have d0 := blk_cell hq 0
     have d1 := blk_cell hq 1
     simp only [List.getElem?_toArray, List.getElem?_cons_succ, List.getElem?_cons_zero] at d0 d1
     have HF := Lib.hid (func_all G (some ⟨b, 0, none⟩) qc fs 0 (some ⟨b2, 0, none⟩) ss ic w3 (Kd.C_below HCQ.out HB3.out) (by have := HL.out.qc_; omega) (Kd.C_below HCI.out HB3.out) (by have := HL.out.ic_; omega) (by omega) (FunB.all HF1.out) (SumB.all HS1.out) (HTL.out.below (by rw [HN.out]; exact HL.out.bel.trans (HB3.out.mono (by omega)))))
     clear hq hb3 HSY HB2
     go_wp2_with fail
     refine HF.out.mono ?_
     rintro e w4 ⟨k, esc, hs, rows, ht, A1, a1, A2, a2, A3, a3, rfl, hx1, hx2, hx3, hb4⟩
     have HB4 := Lib.hid (HB3.out.trans (hb4.mono HB3.out.size))
     have hq := (HB4.out.block K hKM).trans HL.out.q
     clear d0 d1
     have d0 := blk_cell hq 0
     have d1 := blk_cell hq 1
     simp only [List.getElem?_toArray, List.getElem?_cons_succ, List.getElem?_cons_zero] at d0 d1
     obtain ⟨z1, z2, z3, z4⟩ := HT.out.sim1 HB4.out
     have HT1 := Lib.hid (turn_any z1 G b fs.length qc w4 z2 (by omega) z3 z4)
     clear hq ht hx1 hx2 hx3 hb4 HF HB3 z1 z2 z3 z4
     go_wp2_with fail
     refine HT1.out.mono ?_
     rintro e wu ⟨rfl, s1⟩
     have S1 := Lib.hid s1
     obtain ⟨z1, z2, z3, z4⟩ := HT.out.sim2 HB4.out s1
     have HT2 := Lib.hid (turnSums_any z1 b2 ss.length ic wu z2 (by omega) z3 z4)
     clear d0 d1 HT1 s1 z1 z2 z3 z4
     go_wp2_with fail
     refine HT2.out.mono ?_
     rintro e wv ⟨rfl, s2⟩
     obtain ⟨gs, ts, hgl, htl, hgC, htC, hgB, htB, htv, hbv, hpv, hqv⟩ := HT.out.read HL.out HN.out (by omega) (by omega) HB4.out S1.out s2
     have HGB := Lib.hid hgB
     have HTB := Lib.hid htB
     have HTV := Lib.hid htv
     have HBV := Lib.hid hbv
     have HPV := Lib.hid hpv
     have HQV := Lib.hid hqv
     have HQC := Lib.hid (show fs.length ≤ qc from by have := HL.out.qc_; omega)
     have HIC := Lib.hid (show ss.length ≤ ic from by have := HL.out.ic_; omega)
     clear s2 HT2 HT S1 HB4 HL HCQ HCI HF1 HS1 hgB htB htv hbv hpv hqv hNM hKM hj0 hj1 hlt
     have hCP := copyProg_any G (some ⟨b, 0, none⟩) qc gs wv (by rw [hgl]; exact hgC) (by omega) HGB.out
     rw [hgl] at hCP
     have HCP := Lib.hid hCP
     have HGL := Lib.hid hgl
     have HTL2 := Lib.hid htl
     have HGC := Lib.hid hgC
     have HTC := Lib.hid htC
     have d0 := blk_cell HQV.out 0
     have d1 := blk_cell HQV.out 1
     simp only [List.getElem?_toArray, List.getElem?_cons_succ, List.getElem?_cons_zero] at d0 d1
     clear hCP hgl htl hgC htC
     go_wp2_with fail
     refine HCP.out.mono ?_
     rintro e wx ⟨A2, c2, rfl, hr2, hbx⟩
     have hc2 := (Kd.R_reads' hr2).2.2
     clear d0 d1 HCP
     go_upto_region 21 with (fail)
     have hby := below1 wx (.cells #[.int .i64 G, .slice A2 fs.length c2] 24)
     have hny := alloc_new wx (.cells #[.int .i64 G, .slice A2 fs.length c2] 24)
     have hvy : Below wv.heap.size wv _ := hbx.trans (hby.mono hbx.size)
     have HC2 := Lib.hid (Kd.C_below hc2 hby)
     have HTC2 := Lib.hid (Kd.C_below HTC.out hvy)
     have HVY := Lib.hid hvy
     obtain ⟨Y, hY⟩ : ∃ Y, wx.heap.size = Y := ⟨_, rfl⟩
     rw [hY] at hny ⊢
     clear hY hby hbx hc2 hr2 hvy HTC
     generalize World.alloc _ _ = wy at hny HC2 HTC2 HVY ⊢
     have HNY := Lib.hid hny
     have hCS := copySums_any (some ⟨b2, 0, none⟩) ic ts wy (by rw [HTL2.out]; exact HTC2.out) (by rw [HTL2.out]; exact hl2) HTB.out
     rw [HTL2.out] at hCS
     have HCS := Lib.hid hCS
     clear hny hCS
     go_wp2_with fail
     refine HCS.out.mono ?_
     rintro e wz ⟨A3, c3, rfl, hr3, hbz⟩
     have hc3 := (Kd.R_reads' hr3).2.2
     have hvz : Below wv.heap.size wv wz := HVY.out.trans (hbz.mono HVY.out.size)
     have HC3 := Lib.hid hc3
     have HC2z := Lib.hid (Kd.C_below HC2.out hbz)
     have HGz := Lib.hid (show k66.C wz (some ⟨b, 0, none⟩) gs.length gs by rw [HGL.out]; exact Kd.C_below HGC.out hvz)
     have HTz := Lib.hid (show k34.C wz (some ⟨b2, 0, none⟩) ts.length ts by rw [HTL2.out]; exact Kd.C_below HTC2.out hbz)
     have HYz := Lib.hid ((hbz.block _ (blk_lt HNY.out)).trans HNY.out)
     have HPz := Lib.hid ((hvz.block _ (blk_lt HPV.out)).trans HPV.out)
     have HQz := Lib.hid ((hvz.block _ (blk_lt HQV.out)).trans HQV.out)
     have HTLz := Lib.hid (HTV.out.below hvz)
     have HBz := Lib.hid (HBV.out.trans (hvz.mono (by have := HBV.out.size; have := HN.out; omega)))
     have hNM : N < wz.heap.size := blk_lt HPz.out
     have hKM : K < wz.heap.size := blk_lt HQz.out
     have hYM : Y < wz.heap.size := blk_lt HYz.out
     have hqc : gs.length ≤ qc := by rw [HGL.out]; exact HQC.out
     have hic : ts.length ≤ ic := by rw [HTL2.out]; exact HIC.out
     have hgl' : gs.length ≤ 2147483647 := by rw [HGL.out]; exact hl1
     have htl' : ts.length ≤ 2147483647 := by rw [HTL2.out]; exact hl2
     have HBND := Lib.hid (And.intro hqc (And.intro hic (And.intro hgl' htl')))
     clear hr3 hbz hc3 hvz hqc hic hgl' htl' HCS HVY HC2 HTC2 HGC HNY HPV HQV HTV HBV
     go_wp2_with fail
     go_loopw [19] (fun i wr => ∃ j : Nat, j ≤ fs.length ∧ i = .int .i64 j ∧ Below wz.heap.size wz wr) (fun i _ => fs.length - (intOf i).toNat)
     case atStart => exact ⟨0, by omega, rfl, Below.refl _ _⟩
     case round =>
      obtain ⟨j, hj, rfl, hb⟩ := hrel
      have HB := Lib.hid hb
      have hp := (hb.block N hNM).trans HPz.out
      have hq := (hb.block K hKM).trans HQz.out
      have hF := func_all G (some ⟨b, 0, none⟩) qc gs j (some ⟨b2, 0, none⟩) ts ic wr (Kd.C_below HGz.out hb) HBND.out.1 (Kd.C_below HTz.out hb) HBND.out.2.1 HBND.out.2.2.1 (FunB.all HGB.out) (SumB.all HTB.out) (HTLz.out.below hb)
      rw [HGL.out, HTL2.out] at hF
      have HF := Lib.hid hF
      have c0 := blk_cell hp 0
      have c1 := blk_cell hp 1
      have d0 := blk_cell hq 0
      have d1 := blk_cell hq 1
      simp only [List.getElem?_toArray, List.getElem?_cons_succ, List.getElem?_cons_zero] at c0 c1 d0 d1
      clear hp hq hb hF
      by_cases hlt : j < fs.length
      ·go_wp2_with fail
       refine HF.out.mono ?_
       rintro e w3 ⟨k, esc, hs, rows, ht, B1, a1, B2, a2, B3, a3, rfl, hx1, hx2, hx3, hb3⟩
       have HTT := Lib.hid ht
       clear c0 c1 d0 d1 HF ht
       go_upto_region 26 with (fail)
       have hb4 := below1 w3 (.cells #[.slice B2 hs.length a2, .slice B3 rows.length a3] 34)
       have hn4 := alloc_new w3 (.cells #[.slice B2 hs.length a2, .slice B3 rows.length a3] 34)
       have HX := Lib.hid (And.intro (Kd.C_below hx1 hb4) (And.intro (Kd.C_below hx2 hb4) (Kd.C_below hx3 hb4)))
       have HB4 := Lib.hid (HB.out.trans ((hb3.trans (hb4.mono hb3.size)).mono HB.out.size))
       obtain ⟨m1, hm1⟩ : ∃ m1, w3.heap.size = m1 := ⟨_, rfl⟩
       rw [hm1] at hn4 ⊢
       clear hm1 hx1 hx2 hx3 hb3 hb4
       generalize World.alloc _ _ = w4 at hn4 HX HB4 ⊢
       have HM4 := Lib.hid hn4
       have hy := (HB4.out.block Y hYM).trans HYz.out
       have c0 := blk_cell hy 0
       have c1 := blk_cell hy 1
       simp only [List.getElem?_toArray, List.getElem?_cons_succ, List.getElem?_cons_zero] at c0 c1
       have hR := funcR_all G A2 c2 gs j A3 ts c3 w4 (by have := Kd.C_below HC2z.out HB4.out; exact this) (Kd.C_below HC3.out HB4.out) HBND.out.2.2.1 (FunB.all HGB.out) HBND.out.2.2.2 (SumB.all HTB.out) k esc hs rows HTT.out
       rw [HGL.out, HTL2.out] at hR
       have HR := Lib.hid hR
       clear hn4 hy hR
       go_wp2_with fail
       refine HR.out.mono ?_
       rintro e w5 ⟨D1, b1, D2, b2', D3, b3, rfl, hy1, hy2, hy3, hb5⟩
       clear c0 c1 HR
       go_upto_region 27 with (fail)
       have hb6 := below1 w5 (.cells #[.slice D2 hs.length b2', .slice D3 rows.length b3] 34)
       have hn6 := alloc_new w5 (.cells #[.slice D2 hs.length b2', .slice D3 rows.length b3] 34)
       have h46 := hb5.trans (hb6.mono hb5.size)
       have HY := Lib.hid (And.intro (Kd.C_below hy1 hb6) (And.intro (Kd.C_below hy2 hb6) (Kd.C_below hy3 hb6)))
       have HX6 := Lib.hid (And.intro (Kd.C_below HX.out.1 h46) (And.intro (Kd.C_below HX.out.2.1 h46) (Kd.C_below HX.out.2.2 h46)))
       have HM6 := Lib.hid ((h46.block _ (blk_lt HM4.out)).trans HM4.out)
       have HB6 := Lib.hid (HB4.out.trans (h46.mono HB4.out.size))
       obtain ⟨m2, hm2⟩ : ∃ m2, w5.heap.size = m2 := ⟨_, rfl⟩
       rw [hm2] at hn6 ⊢
       clear hm2 hy1 hy2 hy3 hb5 hb6 h46 HX HM4 HB4
       generalize World.alloc _ _ = w6 at hn6 HY HX6 HM6 HB6 ⊢
       have HN6 := Lib.hid hn6
       have hne : (k != k) = false := bne_self_eq_false k
       have HE1 := Lib.hid (eqBools_yes B1 a1 D1 b1 esc w6 HX6.out.1 HY.out.1 HTT.out.le)
       clear hn6
       go_wp2_with fail
       refine HE1.out.mono ?_
       rintro e w7 ⟨rfl, nd, rfl⟩
       have hd := pw_below_drewN HB6.out nd
       have h67 : Below w6.heap.size w6 (w6.drewN nd) := pw_below_drewN (Below.refl _ _) nd
       have HE2 := Lib.hid (eqSummary_yes B2 a2 D2 b2' hs B3 a3 D3 b3 rows (w6.drewN nd) (Kd.C_below HX6.out.2.1 h67) (Kd.C_below HY.out.2.1 h67) (Kd.C_below HX6.out.2.2 h67) (Kd.C_below HY.out.2.2 h67) HTT.out.lh HTT.out.lw HTT.out.lr)
       have s0 := blk_cell (show (w6.drewN nd).heap[m1]? = _ from HM6.out) 0
       have s1 := blk_cell (show (w6.drewN nd).heap[m1]? = _ from HM6.out) 1
       have t0 := blk_cell (show (w6.drewN nd).heap[m2]? = _ from HN6.out) 0
       have t1 := blk_cell (show (w6.drewN nd).heap[m2]? = _ from HN6.out) 1
       simp only [List.getElem?_toArray, List.getElem?_cons_succ, List.getElem?_cons_zero] at s0 s1 t0 t1
       have HD := Lib.hid hd
       clear hd h67 HE1 hne
       generalize w6.drewN nd = w7 at HD HE2 s0 s1 t0 t1 ⊢
       go_wp2_with fail
       refine HE2.out.mono ?_
       rintro e w8 ⟨rfl, hb8⟩
       have HB8 := Lib.hid (HD.out.trans (hb8.mono HD.out.size))
       clear hb8 s0 s1 t0 t1 HE2 HD
       go_wp2_with fail
       go_roundw
       case rel => exact ⟨j + 1, by omega, by go_num, HB8.out⟩
       case measure => simp [intOf]; omega
      ·obtain rfl : j = fs.length := by omega
       go_wp2_with fail
       go_ret
       exact ⟨rfl, by rw [HN.out]; exact HBz.out.trans (HB.out.mono (by omega))⟩
end Go.Proofs.YtcbcacbbnojdjaaGreatDoor
