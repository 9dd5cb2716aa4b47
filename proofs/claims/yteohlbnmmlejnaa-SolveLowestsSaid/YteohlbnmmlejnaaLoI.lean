/-
  The law's rows: the funcs with one more; the walk up to the loop.
-/
import Derived.Test.YteohlbnmmlejnaaLoG
import Derived.Test.YteohlbnmmlejnaaLoH
namespace Go.Proofs.Yteohlbnmmlejnaa.PSolveLowests
open Go.RowKit Go.Proofs.YteohlbnmmlejnaaW.PrintWords
set_option linter.unusedVariables false
set_option linter.unusedSimpArgs false

/-- A literal's row. -/
theorem lit_R {α : Type} (d : Kd α) (W : World) (base e : Nat) {xs : List α} {inner : List Value} {ok okp : Nat → Prop}
    (hrep : Reps (d.M W base okp) d.sz xs inner) (hok : ∀ k, okp k → ok k) (hfresh : ok W.heap.size) (hbase : base ≤ W.heap.size) (hm : xs.length ≤ 9223372036854775807) :
    d.R e (W.alloc (.cells inner.toArray e)) base ok (.slice (some ⟨W.heap.size, 0, none⟩) xs.length xs.length) xs := by
  refine ⟨fun k hk => ?_, inner, ?_, ?_⟩
  · have : W.heap.size = k := by simpa [Value.ownBlock] using hk
    subst this
    exact hfresh
  · have h2 := World.ownsRow_lit (base := base) (e := e) (size := d.sz) W inner.toArray xs.length hbase (by simpa [maxLen] using hm) (by simpa using hrep.1)
    simpa using h2
  · refine hrep.imp_ (fun p c hp => d.M_mono (fun k hk => ⟨hok k hk.1, fun he => ?_⟩) (Kd.M_below (d.M_bound hp) (below_alloc (Below.refl _ _) _)))
    have h3 : k = W.heap.size := by simpa [Value.ownBlock] using he
    have := hk.2.2.1
    omega
theorem reps_one {α : Type} {R : α → List Value → Prop} {size : Nat} {x : α} {cs : List Value} (h : R x cs) (hl : cs.length = size) : Reps R size [x] cs := by
  simpa using (Reps.none R size).snoc h hl

def lastF : S32 := ⟨2, 1, 2, [⟨15, 0, 0, 0, 0, [1], []⟩]⟩
theorem last_small : SmallF lastF := by
  refine ⟨by decide, fun x hx => ?_⟩
  rw [show x = ⟨15, 0, 0, 0, 0, [1], []⟩ from List.mem_singleton.1 hx]
  exact ⟨by decide, by decide⟩
theorem last_M (W : World) (base : Nat) (hb : base ≤ W.heap.size) (v : Value) (xs : List S32) (ok : Nat → Prop) (hv : k32.R 32 W base ok v xs) :
    k32.M ((W.alloc (.cells #[.int .i64 1] 3)).alloc (.cells #[.int .i64 15, .int .i64 0, .int .i64 0, .int .i64 0, .int .i64 0, .slice (some ⟨W.heap.size, 0, none⟩) 1 1, .slice none 0 0] 29)) base (fun k => True ∧ some k ≠ v.ownBlock) lastF
      [.int .i64 2, .int .i64 1, .int .i64 2, .slice (some ⟨W.heap.size + 1, 0, none⟩) 1 1] := by
  have hz : (W.alloc (.cells #[.int .i64 1] 3)).heap.size = W.heap.size + 1 := by simp
  have h1 : (Kd.int .i64).R 3 (W.alloc (.cells #[.int .i64 1] 3)) base (fun _ => True) (.slice (some ⟨W.heap.size, 0, none⟩) 1 1) [1] :=
    lit_R (Kd.int .i64) W base 3 (xs := [1]) (inner := [.int .i64 1]) (okp := fun _ => True) (reps_one rfl rfl) (fun _ _ => trivial) trivial hb (by decide)
  have hs : W.heap.size ≤ (W.alloc (.cells #[.int .i64 1] 3)).heap.size := by simp
  have h2 : k29.R 29 ((W.alloc (.cells #[.int .i64 1] 3)).alloc (.cells #[.int .i64 15, .int .i64 0, .int .i64 0, .int .i64 0, .int .i64 0, .slice (some ⟨W.heap.size, 0, none⟩) 1 1, .slice none 0 0] 29)) base (fun _ => True) (.slice (some ⟨(W.alloc (.cells #[.int .i64 1] 3)).heap.size, 0, none⟩) 1 1) [⟨15, 0, 0, 0, 0, [1], []⟩] :=
    lit_R k29 (W.alloc (.cells #[.int .i64 1] 3)) base 29 (xs := [⟨15, 0, 0, 0, 0, [1], []⟩]) (inner := [.int .i64 15, .int .i64 0, .int .i64 0, .int .i64 0, .int .i64 0, .slice (some ⟨W.heap.size, 0, none⟩) 1 1, .slice none 0 0]) (okp := fun _ => True) (reps_one (k29_mkM _ _ _ ⟨15, 0, 0, 0, 0, [1], []⟩ h1 (Kd.R_nil _ _ _ _ _)) rfl) (fun _ _ => trivial) trivial (Nat.le_trans hb hs) (by decide)
  rw [hz] at h2
  have h3 : k32.R 32 ((W.alloc (.cells #[.int .i64 1] 3)).alloc (.cells #[.int .i64 15, .int .i64 0, .int .i64 0, .int .i64 0, .int .i64 0, .slice (some ⟨W.heap.size, 0, none⟩) 1 1, .slice none 0 0] 29)) base ok v xs := Kd.R_below hv (below_alloc (below_alloc (Below.refl _ _) _) _)
  exact k32_mkM _ _ _ lastF (Kd.R_apart' h2 (Kd.R_typed h3) (by decide))

theorem info32s : (Try.prog.info? 32).map (fun i => (i.zero, i.size, i.bytes)) = some (some (.agg #[(.int .i64 0), (.int .i64 0), (.int .i64 0), (.slice none 0 0)]), k32.sz, 48) := by kernel_rfl


/-- The funcs with one more, read. -/
structure Fs (w : World) (A : Option Addr) (fs : List S32) : Prop where
  C : k32.C w A fs.length fs
  len : fs.length ≤ 2147483648
  small : ∀ f ∈ fs, SmallF f

/-- The cells that the first test reads. -/
def Cells9 (w : World) (bs bf : Nat) (p : Addr) (v0 v1 : Value) (x0 x1 x2 : Int) (u v : Value) : Prop :=
  w.cell? ⟨bs, 0, none⟩ = some v0 ∧ w.cell? ⟨bs, 1, none⟩ = some v1 ∧
  w.cell? p = some (.int .i64 x0) ∧ w.cell? ⟨p.block, p.off + 1, none⟩ = some (.int .i64 x1) ∧ w.cell? ⟨p.block, p.off + 2, none⟩ = some (.int .i64 x2) ∧ w.cell? ⟨p.block, p.off + 3, none⟩ = some u ∧
  w.cell? ⟨bf, 0, none⟩ = some (.int .i64 x0) ∧ w.cell? ⟨bf, 1, none⟩ = some (.int .i64 x1) ∧ w.cell? ⟨bf, 2, none⟩ = some (.int .i64 x2) ∧ w.cell? ⟨bf, 3, none⟩ = some v
theorem cell_below {w w' : World} (hb : Below w.heap.size w w') {a : Addr} {v : Value} (h : w.cell? a = some v) : w'.cell? a = some v := (hb.cell (World.block_lt_of_cell? w _ h)).trans h
theorem Cells9.below {w w' : World} {bs bf : Nat} {p : Addr} {v0 v1 : Value} {x0 x1 x2 : Int} {u v : Value} (h : Cells9 w bs bf p v0 v1 x0 x1 x2 u v) (hb : Below w.heap.size w w') : Cells9 w' bs bf p v0 v1 x0 x1 x2 u v := by
  obtain ⟨h0, h1, h2, h3, h4, h5, h6, h7, h8, h9⟩ := h
  exact ⟨cell_below hb h0, cell_below hb h1, cell_below hb h2, cell_below hb h3, cell_below hb h4, cell_below hb h5, cell_below hb h6, cell_below hb h7, cell_below hb h8, cell_below hb h9⟩
theorem Cells9.mk' {w : World} {bs bf : Nat} {p : Addr} {v0 v1 : Value} {x0 x1 x2 : Int} {u v : Value} (hs : w.heap[bs]? = some (.cells #[v0, v1] 36 (0, 0))) (hf : w.heap[bf]? = some (.cells #[.int .i64 x0, .int .i64 x1, .int .i64 x2, v] 32 (0, 0)))
    (h2 : w.cell? p = some (.int .i64 x0)) (h3 : w.cell? ⟨p.block, p.off + 1, none⟩ = some (.int .i64 x1)) (h4 : w.cell? ⟨p.block, p.off + 2, none⟩ = some (.int .i64 x2)) (h5 : w.cell? ⟨p.block, p.off + 3, none⟩ = some u) : Cells9 w bs bf p v0 v1 x0 x1 x2 u v :=
  ⟨(blk_cell hs 0).trans rfl, (blk_cell hs 1).trans rfl, h2, h3, h4, h5, (blk_cell hf 0).trans rfl, (blk_cell hf 1).trans rfl, (blk_cell hf 2).trans rfl, (blk_cell hf 3).trans rfl⟩
/-- The code's block. -/
theorem code_blk {w : World} {base : Nat} {A : Option Addr} {n c : Nat} {xs : List (S29 ⊕ S29)} (h : kSp.R 29 w base (fun _ => True) (.slice A n c) xs) (hn : 0 < xs.length) :
    ∃ g cur, A = some ⟨g, 0, none⟩ ∧ base ≤ g ∧ w.heap[g]? = some (.cells cur 29 (0, 0)) ∧ xs.length * 7 ≤ cur.size := by
  obtain ⟨_, inner, ho, _⟩ := h
  obtain ⟨_, h2⟩ := ho
  rcases h2 with ⟨_, h0⟩ | ⟨g, cap, cur, he, hb, hh, hnc, _, hs, _⟩
  · omega
  · injection he with ha _ hc
    have hs7 : cur.size = cap * 7 := hs
    exact ⟨g, cur, ha, hb, hh, by omega⟩

theorem seven_cells {w : World} {g : Nat} {cur : Array Value} {T : TypeId} (h : w.heap[g]? = some (.cells cur T (0, 0))) (n : Nat) (hn : n + 7 ≤ cur.size) :
    ∃ y0 y1 y2 y3 y4 y5 y6, w.cell? ⟨g, n, none⟩ = some y0 ∧ w.cell? ⟨g, n + 1, none⟩ = some y1 ∧ w.cell? ⟨g, n + 2, none⟩ = some y2 ∧ w.cell? ⟨g, n + 3, none⟩ = some y3 ∧ w.cell? ⟨g, n + 4, none⟩ = some y4 ∧ w.cell? ⟨g, n + 5, none⟩ = some y5 ∧ w.cell? ⟨g, n + 6, none⟩ = some y6 :=
  ⟨_, _, _, _, _, _, _, (blk_cell h _).trans (Array.getElem?_eq_getElem (by omega)), (blk_cell h _).trans (Array.getElem?_eq_getElem (by omega)), (blk_cell h _).trans (Array.getElem?_eq_getElem (by omega)), (blk_cell h _).trans (Array.getElem?_eq_getElem (by omega)),
    (blk_cell h _).trans (Array.getElem?_eq_getElem (by omega)), (blk_cell h _).trans (Array.getElem?_eq_getElem (by omega)), (blk_cell h _).trans (Array.getElem?_eq_getElem (by omega))⟩
theorem blk_types {w : World} {g g' : Nat} {cs cs' : Array Value} {T T' : TypeId} {fr fr' : Nat × Nat} (h : w.heap[g]? = some (.cells cs T fr)) (h' : w.heap[g']? = some (.cells cs' T' fr')) (hne : T ≠ T') : g ≠ g' := by
  rintro rfl
  rw [h] at h'
  injection h' with h'
  injection h' with _ h' _
  exact hne h'
theorem eqSum_same (p q : Int) : ∃ k, fugueref00_EqSummary.f k (low p q).1 (low p q).2 (low p q).1 (low p q).2 = some true := by
  obtain ⟨hlow1, hlow2, hlow3⟩ := low_small p q
  have h := ev_eqSummary (low p q).1 (low p q).2 (low p q).1 (low p q).2 (by omega) (by omega) (fun x hx => by have := hlow3 x hx; omega)
  rw [decide_eq_true (show (low p q).1 = (low p q).1 ∧ (low p q).2 = (low p q).2 from ⟨rfl, rfl⟩)] at h
  exact h.rounds
/-- Beside one block nothing turned. -/
structure Only (g : Nat) (w W : World) : Prop where
  blk : ∀ cur T, w.heap[g]? = some (.cells cur T (0, 0)) → ∃ cur' : Array Value, W.heap[g]? = some (.cells cur' T (0, 0)) ∧ cur'.size = cur.size
  far : ∀ b o, b ≠ g → w.heap[b]? = some o → W.heap[b]? = some o
  bel : ∀ w0 : World, Below w0.heap.size w0 w → w0.heap.size ≤ g → Below w0.heap.size w0 W
theorem Only.refl (g : Nat) (w : World) : Only g w w := ⟨fun cur _ h => ⟨cur, h, rfl⟩, fun _ _ _ h => h, fun _ h _ => h⟩
theorem Only.set {g : Nat} {w W : World} (h : Only g w W) (n : Nat) (v : Value) : Only g w (W.setCell ⟨g, n, none⟩ v) :=
  ⟨fun cur T hc => by
    obtain ⟨cur', h1, h2⟩ := h.blk cur T hc
    exact ⟨_, blk_set h1 n v, by simp [h2]⟩,
   fun b o hb hc => blk_far (h.far b o hb hc) v hb, fun w0 hb hg => (h.bel w0 hb hg).setCell hg _⟩

set_option maxRecDepth 100000 in
set_option maxHeartbeats 3200000 in
theorem law_any (w : World) (A : Option Addr) (c : Nat) (fs : List S32) (hc : fs.length ≤ c) (hC : k32.C w A fs.length fs) (hl : fs.length ≤ 17592186044416) (hr : ∀ f ∈ fs, ReachF f) :
    Calls Try.prog 3 #[.slice A fs.length c] w fun e w' => e = .returned (.bool true) ∧ Below w.heap.size w w' := by
  obtain ⟨k, r, hk, hsm⟩ := long_tells 0 fs hl hr
  have HC := Lib.hid hC
  have HK := Lib.hid hk
  clear hC hk
  cases r with
  | true =>
    go_enter Try.func3, Try.ntmps3
    go_wp2_with (first | (go_at_call 8; refine (fuguelaw08_long.calls k 0 A c fs true _ HC.out hc HK.out).mono ?_; rintro e w1 ⟨rfl, hb⟩))
    go_ret
    exact ⟨rfl, hb⟩
  | false =>
    obtain ⟨hm, hs⟩ := hsm rfl
    obtain ⟨k2, hk2⟩ := (ev_copyFuncs fs hm hs).rounds
    have HK2 := Lib.hid hk2
    have HS := Lib.hid hs
    clear hk2 hs hsm
    go_enter Try.func3, Try.ntmps3
    go_wp2_with (first
      | (go_at_call 8; refine (fuguelaw08_long.calls k 0 A c fs false _ HC.out hc HK.out).mono ?_; rintro e w1 ⟨rfl, hb⟩; have HB := Lib.hid hb; clear hb)
      | (go_at_call 9; refine (fugueref00_CopyFuncs.calls k2 A c fs fs _ (Kd.C_below HC.out HB.out) hc HK2.out).mono ?_; rintro e w2 ⟨v0, rfl, hr0, hb⟩; obtain ⟨A2, c2, rfl⟩ := Kd.R_slice hr0; have HR0 := Lib.hid hr0; have HB2 := Lib.hid hb; have HM := Lib.hid (last_M w2 w1.heap.size hb.size _ fs _ hr0); clear hr0 hb)
      | (at_builtin; (refine Kd.R_append k32 (w0 := w1) (W := ((w2.alloc (.cells #[.int .i64 1] 3)).alloc (.cells #[.int .i64 15, .int .i64 0, .int .i64 0, .int .i64 0, .int .i64 0, .slice (some ⟨w2.heap.size, 0, none⟩) 1 1, .slice none 0 0] 29))) w1.heap.size rfl (.tmp 12) (.tmp 17) 22 32 _ 48 rfl Try.underlying22 info32s rfl (by decide) (by decide) (.slice A2 fs.length c2) fs lastF _ (fun _ => True) _ rfl (by simp; rfl) HM.out (fun _ h => h) (fun _ _ => trivial) (Kd.R_alloc (Kd.R_alloc HR0.out _) _) (below_alloc (below_alloc HB2.out _) _) (by simp; have := HB2.out.size; omega) (by omega) ?_; intro u1 w3 hr3 hb3 hg3 hat3; obtain ⟨A3, c3, rfl⟩ := Kd.R_slice hr3; have HR3 := Lib.hid hr3; have HB3 := Lib.hid hb3; clear hr3 hb3 hg3 hat3)))
    have hB3 : Below w.heap.size w w3 := HB.out.trans (HB3.out.mono HB.out.size)
    have hF3 : Fs w3 A3 (fs ++ [lastF]) := by
      have h := (Kd.R_reads' HR3.out).2.2
      refine ⟨h, by simp; omega, fun f hf => ?_⟩
      rcases List.mem_append.1 hf with hf | hf
      · exact HS.out f hf
      · rw [List.mem_singleton.1 hf]
        exact last_small
    have hcap := (Kd.R_reads' HR3.out).2.1
    have hlen : (fs ++ [lastF]).length = fs.length + 1 := by simp
    rw [← hlen]
    generalize fs ++ [lastF] = gs at *
    have HF := Lib.hid hF3
    have HW := Lib.hid hB3
    have hgm : gs.length ≤ 2147483648 := HF.out.len
    clear HR3 HB3 HS HM HR0 HB2 HB hF3 hB3 HK HK2 HC hr hlen
    go_wp2_with fail
    go_loopw [3] (fun i wr => ∃ j : Nat, j ≤ gs.length ∧ i = .int .i64 j ∧ Below w3.heap.size w3 wr) (fun i _ => gs.length - (intOf i).toNat)
    case atStart => exact ⟨0, by omega, rfl, Below.refl _ _⟩
    case round =>
      obtain ⟨j, hj, rfl, hB⟩ := hrel
      have HB := Lib.hid hB
      clear hB
      by_cases hlt : j < gs.length
      · obtain ⟨ad, A4, c4, hA, g0, g1, g2, g3, l4, C4⟩ := at_T32 (Kd.C_below HF.out.C HB.out) (j : Int) (by omega) (by omega)
        subst hA
        rw [Int.toNat_natCast] at g0 g1 g2 g3
        have hsm : SmallF (rd_T32 gs (j : Int)) := by rw [rd32]; exact HF.out.small _ (getD_mem gs j z32 hlt)
        generalize rd_T32 gs (j : Int) = x at *
        obtain ⟨x0, x1, x2, code⟩ := x
        dsimp only at g0 g1 g2 g3 l4 C4
        have hsl : code.length ≤ 2147483647 := hsm.1
        have HSM := Lib.hid (show ∀ x ∈ code, SmallI x from hsm.2)
        have H4 := Lib.hid C4
        have G := Lib.hid (⟨g0, g1, g2, g3⟩ : _ ∧ _ ∧ _ ∧ _)
        clear hsm C4
        obtain ⟨hlow1, hlow2, hlow3⟩ := low_small x0 x1
        go_wp2_with (first
          | (go_at_call 10; refine (spareFunc_any x0 x1 x2 wr A4 c4 code H4.out l4 hsl HSM.out).mono ?_; rintro e wa ⟨A5, c5, rfl, hr5, hb5⟩; obtain ⟨g, cur, rfl, hg1, hg2, hg3⟩ := code_blk hr5 (by rw [spare_length]; omega); have hc5 := (Kd.R_reads' hr5).2.1; have HG1 := Lib.hid hg1; have HG2 := Lib.hid hg2; have HG3 := Lib.hid hg3; have HR5 := Lib.hid ((Kd.R_reads' hr5).2.2); have HB5 := Lib.hid hb5; clear hg1 hg2 hg3 hr5 hb5)
          | (go_at_call 11; refine (solve_Lowest.calls 40 x0 x1 x2 (some ⟨g, 0, none⟩) c5 code (low x0 x1).1 (low x0 x1).2 _ (lows x0 x1 x2 code).1).mono ?_; rintro e wb ⟨v0, v1, rfl, h0, h1, hb⟩; obtain ⟨Ah, ch, rfl⟩ := Kd.R_slice h0; obtain ⟨Ar, cr, rfl⟩ := Kd.N_slice h1; have HH := Lib.hid ((Kd.R_reads' h0).2); have HRS := Lib.hid ((Kd.N_reads' h1).2); have HB6 := Lib.hid hb; clear h0 h1 hb))
        have hsz : (wa.alloc (.cells #[.int .i64 x0, .int .i64 x1, .int .i64 x2, .slice (some ⟨g, 0, none⟩) code.length c5] 32)).heap.size = wa.heap.size + 1 := by simp
        have hb7 : Below wa.heap.size wa wb := (below_alloc (Below.refl _ _) _).trans (HB6.out.mono (by omega))
        have hs9 : (wb.alloc (.cells #[.slice Ah (low x0 x1).1.length ch, .slice Ar (low x0 x1).2.length cr] 36)).heap[wb.heap.size]? = some (.cells #[.slice Ah (low x0 x1).1.length ch, .slice Ar (low x0 x1).2.length cr] 36 (0, 0)) := heap_alloc_new wb _
        have hf9 : (wb.alloc (.cells #[.slice Ah (low x0 x1).1.length ch, .slice Ar (low x0 x1).2.length cr] 36)).heap[wa.heap.size]? = some (.cells #[.int .i64 x0, .int .i64 x1, .int .i64 x2, .slice (some ⟨g, 0, none⟩) code.length c5] 32 (0, 0)) :=
          blk_alloc ((HB6.out.block _ (by omega)).trans (heap_alloc_new wa _)) _
        have hg9 : (wb.alloc (.cells #[.slice Ah (low x0 x1).1.length ch, .slice Ar (low x0 x1).2.length cr] 36)).heap[g]? = some (.cells cur 29 (0, 0)) := blk_alloc ((hb7.block _ (blk_lt HG2.out)).trans HG2.out) _
        have hb9 : Below wr.heap.size wr (wb.alloc (.cells #[.slice Ah (low x0 x1).1.length ch, .slice Ar (low x0 x1).2.length cr] 36)) := below_alloc (HB5.out.trans (hb7.mono HB5.out.size)) _
        have hc9 : kSp.C (wb.alloc (.cells #[.slice Ah (low x0 x1).1.length ch, .slice Ar (low x0 x1).2.length cr] 36)) (some ⟨g, 0, none⟩) (code.length + 64) (spare code 64) := by
          have h := Kd.C_alloc (Kd.C_below HR5.out hb7) (.cells #[.slice Ah (low x0 x1).1.length ch, .slice Ar (low x0 x1).2.length cr] 36)
          rwa [spare_length] at h
        have hh9 := Kd.C_alloc HH.out.2 (.cells #[.slice Ah (low x0 x1).1.length ch, .slice Ar (low x0 x1).2.length cr] 36)
        have hr9 := Kd.C_alloc HRS.out.2 (.cells #[.slice Ah (low x0 x1).1.length ch, .slice Ar (low x0 x1).2.length cr] 36)
        have hhc := HH.out.1
        have hrc := HRS.out.1
        have hbs : wr.heap.size ≤ wb.heap.size := Nat.le_trans HB5.out.size hb7.size
        have hbf : wr.heap.size ≤ wa.heap.size := HB5.out.size
        have hgg := HG1.out
        have hgc := HG3.out
        rw [spare_length] at hgc
        clear HG1 HG2 HG3 HR5 HB5 HB6 HH HRS hb7 hsz
        generalize (wb.alloc (.cells #[.slice Ah (low x0 x1).1.length ch, .slice Ar (low x0 x1).2.length cr] 36)) = W9 at *
        generalize wb.heap.size = bs at *
        generalize wa.heap.size = bf at *
        have G9 := Lib.hid (Cells9.mk' hs9 hf9 (cell_below hb9 G.out.1) (cell_below hb9 G.out.2.1) (cell_below hb9 G.out.2.2.1) (cell_below hb9 G.out.2.2.2))
        have K1 := Lib.hid hs9
        have K2 := Lib.hid hf9
        have K3 := Lib.hid hg9
        have HB9 := Lib.hid hb9
        have HC9 := Lib.hid hc9
        have HH9 := Lib.hid hh9
        have HR9 := Lib.hid hr9
        clear hs9 hf9 hg9 hb9 hc9 hh9 hr9
        obtain ⟨ke, hke⟩ := eqSum_same x0 x1
        have HKE := Lib.hid hke
        clear hke
        obtain ⟨y0, y1, y2, y3, y4, y5, y6, y7, y8, y9⟩ := G9.out
        have HG9 := Lib.hid (G9.out.below (below_drew (Below.refl _ _)))
        go_region_held3 (fun w' => w'.cell? ⟨bs, 0, none⟩ = some (.slice Ah (low x0 x1).1.length ch) ∧ w'.cell? ⟨bs, 1, none⟩ = some (.slice Ar (low x0 x1).2.length cr) ∧
            w'.cell? (ad.add (j * 4)) = some (.int .i64 x0) ∧ w'.cell? ⟨(ad.add (j * 4)).block, (ad.add (j * 4)).off + 1, none⟩ = some (.int .i64 x1) ∧ w'.cell? ⟨(ad.add (j * 4)).block, (ad.add (j * 4)).off + 2, none⟩ = some (.int .i64 x2) ∧ w'.cell? ⟨(ad.add (j * 4)).block, (ad.add (j * 4)).off + 3, none⟩ = some (.slice A4 code.length c4) ∧
            w'.cell? ⟨bf, 0, none⟩ = some (.int .i64 x0) ∧ w'.cell? ⟨bf, 1, none⟩ = some (.int .i64 x1) ∧ w'.cell? ⟨bf, 2, none⟩ = some (.int .i64 x2) ∧ w'.cell? ⟨bf, 3, none⟩ = some (.slice (some ⟨g, 0, none⟩) code.length c5))
          (first | go_keep | exact HX5.out | exact HX4.out | exact HX3.out)
          (first
            | (go_at_call 13; refine (fugueref08_Lowest.calls_any 80 x0 x1 x2 A4 c4 code (low x0 x1).1 (low x0 x1).2 _ (lows x0 x1 x2 code).2).mono ?_; rintro e w4 ⟨v3, v4, rfl, h3, h4, hb4⟩; obtain ⟨A6, c6, rfl⟩ := Kd.R_slice h3; obtain ⟨A7, c7, rfl⟩ := Kd.S_slice h4; have HX3 := Lib.hid (HG9.out.below hb4); have HB4 := Lib.hid (Below.trans (below_drew (Below.refl _ _)) hb4 : Below W9.heap.size W9 w4); have HT3 := Lib.hid (Kd.R_reads' h3).2; have HT4 := Lib.hid (Kd.S_reads' h4).2; clear h3 h4 hb4)
            | (go_at_call 12; refine (fugueref00_EqSummary.calls ke Ah ch (low x0 x1).1 Ar cr (low x0 x1).2 A6 c6 (low x0 x1).1 A7 c7 (low x0 x1).2 true w4 (Kd.C_below HH9.out HB4.out) hhc (Kd.C_below HR9.out HB4.out) hrc HT3.out.2 HT3.out.1 HT4.out.2 HT4.out.1 HKE.out).mono ?_; rintro e w5 ⟨rfl, hb5⟩; have HX4 := Lib.hid (HX3.out.below hb5); have HB5 := Lib.hid (HB4.out.trans (hb5.mono HB4.out.size)); clear hb5)
            | (go_at_call 14; refine (staysFunc_any x0 x1 x2 w5 (some ⟨g, 0, none⟩) c5 A4 c4 code (Kd.C_below HC9.out HB5.out) (by omega) (Kd.C_below H4.out (HB9.out.trans (HB5.out.mono HB9.out.size))) l4 hsl HSM.out).mono ?_; rintro e w6 ⟨rfl, hb6⟩; have HX5 := Lib.hid (HX4.out.below hb6); have HB6 := Lib.hid (HB5.out.trans (hb6.mono HB5.out.size)); clear hb6))
        have k1 := (HB6.out.block _ (blk_lt K1.out)).trans K1.out
        have k2 := (HB6.out.block _ (blk_lt K2.out)).trans K2.out
        have k3 := (HB6.out.block _ (blk_lt K3.out)).trans K3.out
        have hb10 := HB9.out.trans (HB6.out.mono HB9.out.size)
        have q3 := (blk_cell k2 3).trans rfl
        have M1 := Lib.hid k1
        have M2 := Lib.hid k2
        have M3 := Lib.hid k3
        have HB10 := Lib.hid hb10
        have hadb : (ad.add (j * 4)).block < wr.heap.size := World.block_lt_of_cell? wr _ g0
        clear k1 k2 k3 hb10 K1 K2 K3 HB6 HB5 HB4 HB9 HX3 HX4 HX5 HG9 HT3 HT4 HH9 HR9 HC9 y0 y1 y2 y3 y4 y5 y6 y7 y8 y9 G9
        obtain ⟨wo, rfl⟩ : ∃ wo : World, wo = wr := ⟨_, rfl⟩
        go_wp2_with fail
        go_loopw [6] (fun i wr => ∃ (k : Nat) (cur2 : Array Value), k ≤ code.length ∧ i = .int .i64 k ∧ (code.length + 64) * 7 ≤ cur2.size ∧ wr.heap[g]? = some (.cells cur2 29 (0, 0)) ∧
          wr.heap[bf]? = some (.cells #[.int .i64 x0, .int .i64 x1, .int .i64 x2, .slice (some ⟨g, 0, none⟩) code.length c5] 32 (0, 0)) ∧
          wr.heap[bs]? = some (.cells #[.slice Ah (low x0 x1).1.length ch, .slice Ar (low x0 x1).2.length cr] 36 (0, 0)) ∧ Below wo.heap.size wo wr) (fun i _ => code.length - (intOf i).toNat)
        case atStart => exact ⟨0, cur, by omega, rfl, hgc, M3.out, M2.out, M1.out, HB10.out⟩
        case round =>
          clear M1 M2 M3 HB10 hgc q3
          obtain ⟨k_, cur2, hk2, rfl, hcz, k3, k2, k1, hb10⟩ := hrel
          have q3 := (blk_cell k2 3).trans rfl
          have M1 := Lib.hid k1
          have M2 := Lib.hid k2
          have M3 := Lib.hid k3
          have HB10 := Lib.hid hb10
          clear k1 k2 k3 hb10
          by_cases hlt2 : k_ < code.length
          · obtain ⟨y0, y1, y2, y3, y4, y5, y6, e0, e1, e2, e3, e4, e5, e6⟩ := seven_cells M3.out (k_ * 7) (by omega)
            have z0 := blk_frozen M3.out (k_ * 7)
            have z1 := blk_frozen M3.out (k_ * 7 + 1)
            have z2 := blk_frozen M3.out (k_ * 7 + 2)
            have z3 := blk_frozen M3.out (k_ * 7 + 3)
            have z4 := blk_frozen M3.out (k_ * 7 + 4)
            have z5 := blk_frozen M3.out (k_ * 7 + 5)
            have z6 := blk_frozen M3.out (k_ * 7 + 6)
            have ho := (((((((Only.refl g wr).set (k_ * 7) (.int .i64 16)).set (k_ * 7 + 1) (.int .i64 (k_ : Int))).set (k_ * 7 + 2) (.int .i64 0)).set (k_ * 7 + 3) (.int .i64 0)).set (k_ * 7 + 4) (.int .i64 0)).set (k_ * 7 + 5) (.slice none 0 0)).set (k_ * 7 + 6) (.slice none 0 0)
            obtain ⟨cur3, c31, c32⟩ := ho.blk _ _ M3.out
            have c33 := ho.far _ _ (blk_types M2.out M3.out (by decide)) M2.out
            have c34 := ho.far _ _ (blk_types M1.out M3.out (by decide)) M1.out
            have c35 := ho.bel wo HB10.out hgg
            have C31 := Lib.hid c31
            have C33 := Lib.hid c33
            have C34 := Lib.hid c34
            have C35 := Lib.hid c35
            clear c31 c33 c34 c35 ho
            go_wp2_with fail
            go_roundw
            case rel => exact ⟨k_ + 1, cur3, by omega, by go_num, by omega, C31.out, C33.out, C34.out, C35.out⟩
            case measure => simp [intOf]; omega
          · have e0 := (blk_cell M2.out 0).trans rfl
            have e1 := (blk_cell M2.out 1).trans rfl
            have e2 := (blk_cell M2.out 2).trans rfl
            have z0 := blk_frozen M2.out 0
            have z1 := blk_frozen M2.out 1
            have a0 := cell_below HB10.out g0
            have a1 := cell_below HB10.out g1
            have n1 : ¬ (ad.add (j * 4)).block = bf := by omega
            have s0 : (wr.setCell ⟨bf, 0, none⟩ (.int .i64 x1)).cell? (ad.add (j * 4)) = some (.int .i64 x0) := (World.cell?_of_block (Below.heap_setCell wr ⟨bf, 0, none⟩ (.int .i64 x1) (ad.add (j * 4)).block n1)).trans a0
            have m1 := blk_put (blk_put M2.out 0 (.int .i64 x1) rfl) 1 (.int .i64 x0) rfl
            have m2 := blk_far (a := ⟨bf, 1, none⟩) (blk_far (a := ⟨bf, 0, none⟩) M1.out (.int .i64 x1) (blk_types M1.out M2.out (by decide))) (.int .i64 x0) (blk_types M1.out M2.out (by decide))
            have m3 : Below wo.heap.size wo ((wr.setCell ⟨bf, 0, none⟩ (.int .i64 x1)).setCell ⟨bf, 1, none⟩ (.int .i64 x0)) := below_set (below_set HB10.out hbf) hbf
            obtain ⟨kf, hkf⟩ := eqSum_same x1 x0
            have P1 := Lib.hid m1
            have P2 := Lib.hid m2
            have P3 := Lib.hid m3
            have HKF := Lib.hid hkf
            clear m1 m2 m3 hkf M1 M2 M3 HB10 hcz
            go_wp2_with (first
              | (go_at_call 13; refine (fugueref08_Lowest.calls_any 80 x1 x0 x2 (some ⟨g, 0, none⟩) c5 code (low x1 x0).1 (low x1 x0).2 _ (lows x1 x0 x2 code).2).mono ?_; rintro e w4 ⟨v3, v4, rfl, h3, h4, hb4⟩; obtain ⟨A6, c6, rfl⟩ := Kd.R_slice h3; obtain ⟨A7, c7, rfl⟩ := Kd.S_slice h4; have kb := (hb4.block _ (blk_lt P1.out)).trans P1.out; have ks := (hb4.block _ (blk_lt P2.out)).trans P2.out; have kb2 := blk_alloc kb (.cells #[.slice A6 (low x1 x0).1.length c6, .slice A7 (low x1 x0).2.length c7] 36); have b0 := (blk_cell kb2 0).trans rfl; have b1 := (blk_cell kb2 1).trans rfl; have b2 := (blk_cell kb2 2).trans rfl; have b3 := (blk_cell kb2 3).trans rfl; have HT3 := Lib.hid h3; have HT4 := Lib.hid (Kd.S_R h4); have KB := Lib.hid kb; have KS := Lib.hid ks; have HB4 := Lib.hid (P3.out.trans (hb4.mono P3.out.size)); clear kb kb2 ks h3 h4 hb4)
              | (go_at_call 11; refine (solve_Lowest.calls 40 x1 x0 x2 (some ⟨g, 0, none⟩) c5 code (low x1 x0).1 (low x1 x0).2 _ (lows x1 x0 x2 code).1).mono ?_; rintro e w6 ⟨v5, v6, rfl, h5, h6, hb6⟩; go_loud (obtain ⟨A8, c8, rfl⟩ := Kd.R_slice h5; obtain ⟨A9, c9, rfl⟩ := Kd.N_slice h6; have hz6 : (w4.alloc (.cells #[.slice A6 (low x1 x0).1.length c6, .slice A7 (low x1 x0).2.length c7] 36)).heap.size = w4.heap.size + 1 := (by simp); have t6 := (hb6.block w4.heap.size (by omega)).trans (heap_alloc_new w4 _); have u6 := (hb6.block bs (by have := blk_lt KS.out; omega)).trans (blk_alloc KS.out _); have hne : ¬ w4.heap.size = bs := (by have := blk_lt KS.out; omega); have hne2 : ¬ bs = w4.heap.size := (by omega); have r0 := (blk_cell t6 0).trans rfl; have r1 := (blk_cell t6 1).trans rfl; have d0 := (blk_cell u6 0).trans rfl; have d1 := (blk_cell u6 1).trans rfl; have f0 := blk_frozen u6 0; have f1 := blk_frozen u6 1; have v0 := (blk_cell (blk_far (a := ⟨bs, 1, none⟩) (blk_far (a := ⟨bs, 0, none⟩) t6 (.slice A8 (low x1 x0).1.length c8) hne) (.slice A9 (low x1 x0).2.length c9) hne) 0).trans rfl; have v1 := (blk_cell (blk_far (a := ⟨bs, 1, none⟩) (blk_far (a := ⟨bs, 0, none⟩) t6 (.slice A8 (low x1 x0).1.length c8) hne) (.slice A9 (low x1 x0).2.length c9) hne) 1).trans rfl; have u7 := blk_put u6 0 (.slice A8 (low x1 x0).1.length c8) rfl; have hbA : Below w4.heap.size w4 w6 := (below_alloc (Below.refl _ _) _).trans (hb6.mono (by omega)); have i3 := Kd.R_set (Kd.R_set (Kd.R_below HT3.out hbA) u6 (by decide) 0 (.slice A8 (low x1 x0).1.length c8)) u7 (by decide) 1 (.slice A9 (low x1 x0).2.length c9); have i4 := Kd.R_set (Kd.R_set (Kd.R_below HT4.out hbA) u6 (by decide) 0 (.slice A8 (low x1 x0).1.length c8)) u7 (by decide) 1 (.slice A9 (low x1 x0).2.length c9); have i5 := Kd.R_set (Kd.R_set h5 u6 (by decide) 0 (.slice A8 (low x1 x0).1.length c8)) u7 (by decide) 1 (.slice A9 (low x1 x0).2.length c9); have i6 := Kd.N_far (p := ⟨bs, 1, none⟩) (Kd.N_far (p := ⟨bs, 0, none⟩) h6 (fun k hk => by have := blk_lt KS.out; have := hk.1; show k ≠ bs; omega) (.slice A8 (low x1 x0).1.length c8)) (fun k hk => by have := blk_lt KS.out; have := hk.1; show k ≠ bs; omega) (.slice A9 (low x1 x0).2.length c9); have hb8 := below_set (j := 1) (v := .slice A9 (low x1 x0).2.length c9) (below_set (j := 0) (v := .slice A8 (low x1 x0).1.length c8) (HB4.out.trans (hbA.mono HB4.out.size)) hbs) hbs; have I3 := Lib.hid (Kd.R_reads' i3).2; have I4 := Lib.hid (Kd.R_reads' i4).2; have I5 := Lib.hid (Kd.R_reads' i5).2; have I6 := Lib.hid (Kd.N_reads' i6).2; have HB8 := Lib.hid hb8; clear h5 h6 hb6 t6 u6 u7 hbA i3 i4 i5 i6 hb8 b0 b1 b2 b3))
              | (go_at_call 12; refine (fugueref00_EqSummary.calls kf A8 c8 (low x1 x0).1 A9 c9 (low x1 x0).2 A6 c6 (low x1 x0).1 A7 c7 (low x1 x0).2 true _ I5.out.2 I5.out.1 I6.out.2 I6.out.1 I3.out.2 I3.out.1 I4.out.2 I4.out.1 HKF.out).mono ?_; rintro e w8 ⟨rfl, hb9⟩; have HB9 := Lib.hid (HB8.out.trans (hb9.mono HB8.out.size)); clear hb9))
            go_roundw
            case rel => exact ⟨j + 1, by omega, by go_num, HB.out.trans (HB9.out.mono HB.out.size)⟩
            case measure => simp [intOf]; omega
      · obtain rfl : j = gs.length := by omega
        go_wp2_with fail
        go_ret
        exact ⟨rfl, HW.out.trans (HB.out.mono HW.out.size)⟩
end Go.Proofs.Yteohlbnmmlejnaa.PSolveLowests
