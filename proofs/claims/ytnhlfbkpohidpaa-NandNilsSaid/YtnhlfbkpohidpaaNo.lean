/- The kinds of the arguments' types. -/
import Derived.Test.YtnhlfbkpohidpaaPAllx0
import Derived.Test.YtnhlfbkpohidpaaOpens
namespace Go.Proofs.Ytnhlfbkpohidpaa.PAll
open Go Go.RowKit Go.Proofs.YtnhlfbkpohidpaaW.PrintWords Go.Proofs.Ytnhlfbkpohidpaa.Opens
def wf64 (n : Int) : Prop := (Lit.int .i64 n).wf = true
theorem wf64_le {n : Int} (h : wf64 n) : -9223372036854775808 ≤ n ∧ n ≤ 9223372036854775807 := by
  unfold wf64 Lit.wf at h
  rw [Bool.and_eq_true, decide_eq_true_eq, decide_eq_true_eq] at h
  exact h
theorem opens3 : Opens Try.prog 3 (Kd.int .i64) wf64 := Opens.int Try.underlying3
theorem opens4 : Opens Try.prog 4 Kd.bool (fun _ => True) := Opens.bool Try.underlying4
theorem opens5 : Opens Try.prog 5 (Kd.int .u8) (fun n => (Lit.int .u8 n).wf = true) := Opens.int Try.underlying5
theorem opens31 : Opens Try.prog 31 (Kd.slice 5 (Kd.int .u8)) (fun l => l.length * 1 ≤ 140737488351232 ∧ ∀ a ∈ l, (Lit.int .u8 a).wf = true) :=
  Opens.slice Try.underlying31 (by kernel_rfl) opens5
end Go.Proofs.Ytnhlfbkpohidpaa.PAll
