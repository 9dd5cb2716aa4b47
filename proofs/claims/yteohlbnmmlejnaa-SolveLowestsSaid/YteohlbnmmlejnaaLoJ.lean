/-
  The law's argument opened.
-/
import Derived.Test.YteohlbnmmlejnaaLoI
import Derived.Test.YteohlbnmmlejnaaOpen
namespace Go.Proofs.Yteohlbnmmlejnaa.PSolveLowests
open Go.RowKit Go.Proofs.YteohlbnmmlejnaaW.PrintWords
set_option linter.unusedVariables false
set_option linter.unusedSimpArgs false

abbrev wfI (n : Int) : Prop := (Lit.int .i64 n).wf = true
abbrev fitL (xs : List Int) : Prop := xs.length * 8 ≤ 140737488351232 ∧ ∀ x ∈ xs, wfI x
abbrev fitI (x : S29) : Prop := wfI x.f0 ∧ wfI x.f1 ∧ wfI x.f2 ∧ wfI x.f3 ∧ wfI x.f4 ∧ fitL x.f5 ∧ fitL x.f6
abbrev fitF (f : S32) : Prop := wfI f.f0 ∧ wfI f.f1 ∧ wfI f.f2 ∧ (f.f3.length * 88 ≤ 140737488351232 ∧ ∀ x ∈ f.f3, fitI x)
abbrev fitFs (fs : List S32) : Prop := fs.length * 48 ≤ 140737488351232 ∧ ∀ f ∈ fs, fitF f
theorem opens27 : Opening.Opens Try.prog 27 (Kd.slice 3 (Kd.int .i64)) fitL := Opening.opens_slice Try.underlying27 (by kernel_rfl) (by kernel_rfl) (Opening.opens_int Try.underlying3)
theorem opens3 : Opening.Opens Try.prog 3 (Kd.int .i64) wfI := Opening.opens_int Try.underlying3
theorem opens29 : Opening.Opens Try.prog 29 k29 fitI :=
  Opening.opens_iso (Opening.opens_struct Try.underlying29 (by kernel_rfl)
    (Opening.opensF_cons rfl (by kernel_rfl) opens3 (Opening.opensF_cons rfl (by kernel_rfl) opens3 (Opening.opensF_cons rfl (by kernel_rfl) opens3 (Opening.opensF_cons rfl (by kernel_rfl) opens3 (Opening.opensF_cons rfl (by kernel_rfl) opens3
      (Opening.opensF_cons rfl (by kernel_rfl) opens27 (Opening.opensF_one rfl (by kernel_rfl) opens27)))))))) (fun y => ⟨⟨y.1, y.2.1, y.2.2.1, y.2.2.2.1, y.2.2.2.2.1, y.2.2.2.2.2.1, y.2.2.2.2.2.2⟩, rfl⟩)
theorem opens30 : Opening.Opens Try.prog 30 (Kd.slice 29 k29) (fun xs => xs.length * 88 ≤ 140737488351232 ∧ ∀ x ∈ xs, fitI x) := Opening.opens_slice Try.underlying30 (by kernel_rfl) (by kernel_rfl) opens29
theorem opens32 : Opening.Opens Try.prog 32 k32 fitF :=
  Opening.opens_iso (Opening.opens_struct Try.underlying32 (by kernel_rfl)
    (Opening.opensF_cons rfl (by kernel_rfl) opens3 (Opening.opensF_cons rfl (by kernel_rfl) opens3 (Opening.opensF_cons rfl (by kernel_rfl) opens3 (Opening.opensF_one rfl (by kernel_rfl) opens30))))) (fun y => ⟨⟨y.1, y.2.1, y.2.2.1, y.2.2.2⟩, rfl⟩)
theorem opensFuncs : Opening.Opens Try.prog 22 (Kd.slice 32 k32) fitFs := Opening.opens_slice Try.underlying22 (by kernel_rfl) (by kernel_rfl) opens32

theorem law_fit (w : World) (A : Option Addr) (c : Nat) (fs : List S32) (hc : fs.length ≤ c) (hC : k32.C w A fs.length fs) (hf : fitFs fs) :
    Calls Try.prog 3 #[.slice A fs.length c] w fun e w' => e = .returned (.bool true) ∧ Below w.heap.size w w' :=
  law_any w A c fs hc hC (by have := hf.1; omega) (fun f hm => by
    have h1 := (hf.2 f hm).2.2.2
    refine ⟨by have := h1.1; omega, fun x hx => ?_⟩
    have h2 := (h1.2 x hx).2.2.2.2.2
    exact ⟨by have := h2.1.1; omega, by have := h2.2.1; omega⟩)
end Go.Proofs.Yteohlbnmmlejnaa.PSolveLowests
