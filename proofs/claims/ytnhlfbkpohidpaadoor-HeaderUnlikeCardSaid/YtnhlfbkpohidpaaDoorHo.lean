/- The kinds of the header laws' arguments. -/
import Derived.Test.YtnhlfbkpohidpaaDoorHg
import Derived.Test.YtnhlfbkpohidpaaDoorOpens
namespace Go.Proofs.YtnhlfbkpohidpaaDoor.PAll
open Go Go.RowKit Go.Proofs.YtnhlfbkpohidpaaDoorW.PrintWords Go.Proofs.YtnhlfbkpohidpaaDoor.Opens
def wf64 (n : Int) : Prop := (Lit.int .i64 n).wf = true
def wfU (n : Int) : Prop := (Lit.int .u64 n).wf = true
def wf8 (n : Int) : Prop := (Lit.int .u8 n).wf = true
theorem wfU_le {n : Int} (h : wfU n) : 0 ≤ n ∧ n < 18446744073709551616 := by
  unfold wfU Lit.wf at h
  rw [Bool.and_eq_true, decide_eq_true_eq, decide_eq_true_eq] at h
  have h1 : (0 : Int) ≤ n := h.1
  have h2 : n ≤ 18446744073709551615 := h.2
  omega
theorem wf64_le {n : Int} (h : wf64 n) : -9223372036854775808 ≤ n ∧ n ≤ 9223372036854775807 := by
  unfold wf64 Lit.wf at h
  rw [Bool.and_eq_true, decide_eq_true_eq, decide_eq_true_eq] at h
  exact h
theorem opensI : Opens Tryd.prog 3 (Kd.int .i64) wf64 := Opens.int Tryd.underlying3
theorem opensU : Opens Tryd.prog 22 (Kd.int .u64) wfU := Opens.int Tryd.underlying22
theorem opens8 : Opens Tryd.prog 5 (Kd.int .u8) wf8 := Opens.int Tryd.underlying5
set_option maxRecDepth 100000 in
theorem opensB : Opens Tryd.prog 25 (Kd.slice 5 (Kd.int .u8)) (fun l => l.length * 1 ≤ 140737488351232 ∧ ∀ a ∈ l, wf8 a) :=
  Opens.slice Tryd.underlying25 (by kernel_rfl) opens8
theorem opensM : Opens Tryd.prog 24 (Kd.pair (Kd.int .i64) (Kd.pair (Kd.int .u64) (Kd.int .i64))) (fun x => wf64 x.1 ∧ wfU x.2.1 ∧ wf64 x.2.2) :=
  Opens.struct Tryd.underlying24 (by kernel_rfl) (OpensF.cons (by kernel_rfl) rfl opensI (OpensF.cons (by kernel_rfl) rfl opensU (OpensF.one (by kernel_rfl) opensI)))
end Go.Proofs.YtnhlfbkpohidpaaDoor.PAll
