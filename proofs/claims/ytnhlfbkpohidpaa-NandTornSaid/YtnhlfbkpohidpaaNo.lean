/- The kinds of the arguments' types. -/
import Derived.Test.YtnhlfbkpohidpaaPAllx0
import Derived.Test.YtnhlfbkpohidpaaOpens
namespace Go.Proofs.Ytnhlfbkpohidpaa.PAll
open Go Go.RowKit Go.Proofs.YtnhlfbkpohidpaaW.PrintWords Go.Proofs.Ytnhlfbkpohidpaa.Opens
def wf64 (n : Int) : Prop := (Lit.int .i64 n).wf = true
theorem wf64_le {n : Int} (h : wf64 n) : -9223372036854775808 ≤ n ∧ n ≤ 9223372036854775807 := by
  unfold wf64 Lit.wf at h
  rw [Bool.and_eq_true, decide_eq_true_eq, decide_eq_true_eq] at h
  exact h
theorem opens3 : Opens Try.prog 3 (Kd.int .i64) wf64 := Opens.int Try.underlying3
theorem opens4 : Opens Try.prog 4 Kd.bool (fun _ => True) := Opens.bool Try.underlying4
theorem opens5 : Opens Try.prog 5 (Kd.int .u8) (fun n => (Lit.int .u8 n).wf = true) := Opens.int Try.underlying5
theorem opens31 : Opens Try.prog 31 (Kd.slice 5 (Kd.int .u8)) (fun l => l.length * 1 ≤ 140737488351232 ∧ ∀ a ∈ l, (Lit.int .u8 a).wf = true) :=
  Opens.slice Try.underlying31 (by kernel_rfl) opens5
def G44 (x : S44) : Prop := wf64 x.f0 ∧ wf64 x.f1 ∧ wf64 x.f2
theorem opens44 : Opens Try.prog 44 k44 G44 :=
  Opens.iso (fun x : S44 => (x.f0, x.f1, x.f2)) (fun p => ⟨p.1, p.2.1, p.2.2⟩) (fun _ => rfl)
    (Opens.struct Try.underlying44 (by kernel_rfl) (OpensF.cons (by kernel_rfl) rfl opens3 (OpensF.cons (by kernel_rfl) rfl opens3 (OpensF.one (by kernel_rfl) opens3))))
theorem opens32 : Opens Try.prog 32 (Kd.slice 44 k44) (fun l => l.length * 24 ≤ 140737488351232 ∧ ∀ a ∈ l, G44 a) :=
  Opens.slice Try.underlying32 (by kernel_rfl) opens44
/-- One step of a script. -/
structure S34 where
  k : Int
  b : Int
  p : Int
  d : List Int
  pl : List S44
def z34 : S34 := ⟨0, 0, 0, [], []⟩
def k34 : Kd S34 := Kd.iso (Kd.pair (Kd.int .i64) (Kd.pair (Kd.int .i64) (Kd.pair (Kd.int .i64) (Kd.pair (Kd.slice 5 (Kd.int .u8)) (Kd.slice 44 k44))))) (fun x : S34 => (x.k, x.b, x.p, x.d, x.pl))
theorem k34_open {w : World} {x : S34} {cs : List Value} (h : k34.K w x cs) : ∃ A3 c3 A4 c4, cs = [.int .i64 x.k, .int .i64 x.b, .int .i64 x.p, .slice A3 x.d.length c3, .slice A4 x.pl.length c4] ∧ x.d.length ≤ c3 ∧ (Kd.int .u8).C w A3 x.d.length x.d ∧ x.pl.length ≤ c4 ∧ k44.C w A4 x.pl.length x.pl := by
  obtain ⟨_, _, rfl, rfl, ⟨_, _, rfl, rfl, ⟨_, _, rfl, rfl, ⟨_, _, rfl, ⟨A3, c3, rfl, l3, g3⟩, ⟨A4, c4, rfl, l4, g4⟩⟩⟩⟩⟩ := h
  exact ⟨A3, c3, A4, c4, rfl, l3, g3, l4, g4⟩
def rd_T34 (xs : List S34) (i : Int) : S34 := xs.getD i.toNat z34
theorem at_T34 {w : World} {A : Option Addr} {n : Nat} {xs : List S34} (h : Kd.C k34 w A n xs) (i : Int) (h0 : 0 ≤ i) (h1 : i < n) : ∃ ad A3 c3 A4 c4, A = some ad ∧ w.cell? (ad.add (i.toNat * 5)) = some (.int .i64 (rd_T34 xs i).k) ∧ w.cell? ⟨(ad.add (i.toNat * 5)).block, (ad.add (i.toNat * 5)).off + 1, none⟩ = some (.int .i64 (rd_T34 xs i).b) ∧ w.cell? ⟨(ad.add (i.toNat * 5)).block, (ad.add (i.toNat * 5)).off + 2, none⟩ = some (.int .i64 (rd_T34 xs i).p) ∧ w.cell? ⟨(ad.add (i.toNat * 5)).block, (ad.add (i.toNat * 5)).off + 3, none⟩ = some (.slice A3 (rd_T34 xs i).d.length c3) ∧ w.cell? ⟨(ad.add (i.toNat * 5)).block, (ad.add (i.toNat * 5)).off + 4, none⟩ = some (.slice A4 (rd_T34 xs i).pl.length c4) ∧ (rd_T34 xs i).d.length ≤ c3 ∧ (Kd.int .u8).C w A3 (rd_T34 xs i).d.length (rd_T34 xs i).d := by
  obtain ⟨ad, c, e, _, hK, hc0⟩ := Kd.C_get h z34 i h0 h1
  have hc : ∀ j u, c[j]? = some u → w.cell? (ad.add (i.toNat * 5 + j)) = some u := hc0
  obtain ⟨A3, c3, A4, c4, rfl, l3, g3, _, _⟩ := k34_open hK
  exact ⟨ad, A3, c3, A4, c4, e, hc 0 _ rfl, by rw [← add_field _ _ 1 (by omega)]; exact hc 1 _ rfl, by rw [← add_field _ _ 2 (by omega)]; exact hc 2 _ rfl, by rw [← add_field _ _ 3 (by omega)]; exact hc 3 _ rfl, by rw [← add_field _ _ 4 (by omega)]; exact hc 4 _ rfl, l3, g3⟩
theorem opens34 : Opens Try.prog 34 k34 (fun x => wf64 x.k ∧ wf64 x.b ∧ wf64 x.p ∧ (x.d.length * 1 ≤ 140737488351232 ∧ ∀ a ∈ x.d, (Lit.int .u8 a).wf = true) ∧ (x.pl.length * 24 ≤ 140737488351232 ∧ ∀ a ∈ x.pl, G44 a)) :=
  Opens.iso (fun x : S34 => (x.k, x.b, x.p, x.d, x.pl)) (fun p => ⟨p.1, p.2.1, p.2.2.1, p.2.2.2.1, p.2.2.2.2⟩) (fun _ => rfl)
    (Opens.struct Try.underlying34 (by kernel_rfl) (OpensF.cons (by kernel_rfl) rfl opens3 (OpensF.cons (by kernel_rfl) rfl opens3 (OpensF.cons (by kernel_rfl) rfl opens3 (OpensF.cons (by kernel_rfl) rfl opens31 (OpensF.one (by kernel_rfl) opens32))))))
theorem opens22 : Opens Try.prog 22 (Kd.slice 34 k34) (fun l => l.length * 72 ≤ 140737488351232 ∧ ∀ a ∈ l, (wf64 a.k ∧ wf64 a.b ∧ wf64 a.p ∧ (a.d.length * 1 ≤ 140737488351232 ∧ ∀ x ∈ a.d, (Lit.int .u8 x).wf = true) ∧ (a.pl.length * 24 ≤ 140737488351232 ∧ ∀ x ∈ a.pl, G44 x))) :=
  Opens.slice Try.underlying22 (by kernel_rfl) opens34
end Go.Proofs.Ytnhlfbkpohidpaa.PAll
