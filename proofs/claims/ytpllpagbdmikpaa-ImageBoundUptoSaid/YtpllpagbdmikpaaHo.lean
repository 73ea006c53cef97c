/- The kinds of the arguments' types. -/
import Derived.Test.YtpllpagbdmikpaaPAllx0
import Derived.Test.YtpllpagbdmikpaaOpens
namespace Go.Proofs.Ytpllpagbdmikpaa.PAll
open Go Go.RowKit Go.Proofs.YtpllpagbdmikpaaW.PrintWords Go.Proofs.Ytpllpagbdmikpaa.Opens
def wf64 (n : Int) : Prop := (Lit.int .i64 n).wf = true
def G48 (x : S48) : Prop := wf64 x.f0 ∧ wf64 x.f1 ∧ wf64 x.f2
def G50 (x : S50) : Prop := x.f0.size ≤ reachBytes ∧ G48 x.f1
theorem opens3 : Opens Try.prog 3 (Kd.int .i64) wf64 := Opens.int Try.underlying3
theorem opens9 : Opens Try.prog 9 Kd.string (fun s => s.size ≤ reachBytes) := Opens.string Try.underlying9
theorem opens48 : Opens Try.prog 48 k48 G48 :=
  Opens.iso (fun x : S48 => (x.f0, x.f1, x.f2)) (fun p => ⟨p.1, p.2.1, p.2.2⟩) (fun _ => rfl)
    (Opens.struct Try.underlying48 (by kernel_rfl) (OpensF.cons (by kernel_rfl) rfl opens3 (OpensF.cons (by kernel_rfl) rfl opens3 (OpensF.one (by kernel_rfl) opens3))))
theorem opens50 : Opens Try.prog 50 k50 G50 :=
  Opens.iso (fun x : S50 => (x.f0, x.f1)) (fun p => ⟨p.1, p.2⟩) (fun _ => rfl)
    (Opens.struct Try.underlying50 (by kernel_rfl) (OpensF.cons (by kernel_rfl) rfl opens9 (OpensF.one (by kernel_rfl) opens48)))
theorem opens22 : Opens Try.prog 22 (Kd.slice 50 k50) (fun l => l.length * 40 ≤ 140737488351232 ∧ ∀ a ∈ l, G50 a) :=
  Opens.slice Try.underlying22 (by kernel_rfl) opens50
def GImg (x : Int × List S50) : Prop := wf64 x.1 ∧ (x.2.length * 40 ≤ 140737488351232 ∧ ∀ a ∈ x.2, G50 a)
theorem opens31 : Opens Try.prog 31 (Kd.pair (Kd.int .i64) (Kd.slice 50 k50)) GImg :=
  Opens.struct Try.underlying31 (by kernel_rfl) (OpensF.cons (by kernel_rfl) rfl opens3 (OpensF.one (by kernel_rfl) opens22))
theorem imgKeys {lv : Int} {l : List S50} (h : GImg (lv, l)) : ∀ s ∈ l, s.f0.size ≤ 140737488351232 := fun s hs => (h.2.2 s hs).1
theorem imgLen {lv : Int} {l : List S50} (h : GImg (lv, l)) : l.length ≤ 3518437208883 := by
  have : l.length * 40 ≤ 140737488351232 := h.2.1
  omega
def wf8 (n : Int) : Prop := (Lit.int .u8 n).wf = true
theorem opens5 : Opens Try.prog 5 (Kd.int .u8) wf8 := Opens.int Try.underlying5
theorem opens32 : Opens Try.prog 32 (Kd.slice 5 (Kd.int .u8)) (fun l => l.length * 1 ≤ 140737488351232 ∧ ∀ a ∈ l, wf8 a) :=
  Opens.slice Try.underlying32 (by kernel_rfl) opens5
theorem bytes8 {l : List Int} (h : ∀ a ∈ l, wf8 a) : ∀ x ∈ l, 0 ≤ x ∧ x < 256 := fun x hx => by
  have := h x hx
  unfold wf8 Lit.wf at this
  rw [Bool.and_eq_true, decide_eq_true_eq, decide_eq_true_eq] at this
  exact ⟨this.1, by have h2 : x ≤ 255 := this.2; omega⟩
end Go.Proofs.Ytpllpagbdmikpaa.PAll
