/- errors.Is against header.errNone: nil, errNone itself, an errKind. -/
import Derived.Test.YtnhlfbkpohidpaaDoorHa
import Derived.LaidEql
import Derived.Stop.Asserts
import Derived.RowKitTokens
namespace Go.Proofs.YtnhlfbkpohidpaaDoor.PAll
open Go.RowKit Go.Proofs.YtnhlfbkpohidpaaDoorW.PrintWords Go.Proofs.YtnhlfbkpohidpaaDoorW.PrintLast Go.Proofs.YtnhlfbkpohidpaaDoor.Plain Go.Extern.Stop Go.Stop Go.Extern
set_option linter.unusedVariables false
set_option linter.unusedSimpArgs false
theorem isTypeOf (v : Value) (w : World) : (Extern.ReflectliteType.typeOf #[.iface 83 v]).run Tryd.prog w = .ok (.iface 73 (.agg #[typeHandle Tryd.prog 83])) w := by kernel_rfl
theorem isComparable (w : World) : (callFunc 60 #[.agg #[typeHandle Tryd.prog 83]]).run Tryd.prog w = .ok (.value (.bool true)) w := by kernel_rfl
theorem isMethodComparable (v : Value) (w : World) : (Go.method 220 73 v "Comparable").run Tryd.prog w = .ok (60, v) w := by kernel_rfl
theorem isComp : (Tryd.prog.info? 83).map (·.comparable) = some true := by kernel_rfl
theorem isSize : (Tryd.prog.info? 108).map (·.size) = some 1 := by kernel_rfl
theorem noIsE (v : Value) (xT : TypeId) (w : World) : (Instr.typeAssert (.iface 83 v) xT 75 true).run Tryd.prog w = .ok (.tuple #[.nilIface, .bool false]) w := run_typeAssert_lacksB Tryd.underlying75 (by kernel_rfl) (by kernel_rfl) v xT w
theorem noIsK (v : Value) (xT : TypeId) (w : World) : (Instr.typeAssert (.iface 61 v) xT 75 true).run Tryd.prog w = .ok (.tuple #[.nilIface, .bool false]) w := run_typeAssert_lacksB Tryd.underlying75 (by kernel_rfl) (by kernel_rfl) v xT w
theorem hasUnwrapK (v : Value) (xT : TypeId) (w : World) : (Instr.typeAssert (.iface 61 v) xT 78 true).run Tryd.prog w = .ok (.tuple #[.iface 61 v, .bool true]) w := run_typeAssert_hasB Tryd.underlying78 (by kernel_rfl) v xT w
theorem methodUnwrapK (v : Value) (w : World) : (Go.method 220 61 v "Unwrap").run Tryd.prog w = .ok (56, v) w := by kernel_rfl
/-- header.errNone is the sentinel at a. -/
abbrev gNone (w : World) (a : Addr) : Prop := w.cell? ⟨0, 0, none⟩ = some (.iface 83 (.pointer (some a)))
set_option maxRecDepth 100000 in
theorem is_none_same (a : Addr) (w : World) :
    Calls Tryd.prog 22 #[.iface 83 (.pointer (some a)), .iface 83 (.pointer (some a))] w fun e w' => e = .returned (.bool true) ∧ Below w.heap.size w w' := by
  obtain ⟨i, hi, hcmp⟩ := Option.map_eq_some_iff.1 isComp
  obtain ⟨j, hj, hjs⟩ := Option.map_eq_some_iff.1 isSize
  have h8 := @run_callFunc_extern Tryd.prog 32 _ Extern.ReflectliteType.typeOf Tryd.func32 (by kernel_rfl) (by kernel_rfl) (by kernel_rfl) (by kernel_rfl)
  have tT := isTypeOf
  have cT := isComparable
  have mR := isMethodComparable
  have heq := run_eql_iface_ptr_same (P := Tryd.prog) w a Tryd.underlying49 Tryd.underlying83 hi hcmp hj
  go_enter Tryd.func22, Tryd.ntmps22
  go_wp2
  refine wp_loop_rounds 1 ?_
  rw [rounds_succ]
  go_wp2
  go_ret
  exact ⟨rfl, Below.refl _ _⟩
set_option maxRecDepth 100000 in
theorem is_none_nil (b : Addr) (w : World) :
    Calls Tryd.prog 22 #[.nilIface, .iface 83 (.pointer (some b))] w fun e w' => e = .returned (.bool false) ∧ Below w.heap.size w w' := by
  have hn := run_eql_iface_nil_left (P := Tryd.prog) w 83 (.pointer (some b)) Tryd.underlying49
  go_enter Tryd.func22, Tryd.ntmps22
  go_wp2
  go_ret
  exact ⟨rfl, Below.refl _ _⟩
set_option maxRecDepth 100000 in
theorem is_none_kind (k b : Addr) (w : World) (hg : gNone w b) :
    Calls Tryd.prog 22 #[.iface 61 (.pointer (some k)), .iface 83 (.pointer (some b))] w fun e w' => e = .returned (.bool true) ∧ Below w.heap.size w w' := by
  obtain ⟨i, hi, hcmp⟩ := Option.map_eq_some_iff.1 isComp
  obtain ⟨j, hj, hjs⟩ := Option.map_eq_some_iff.1 isSize
  have h8 := @run_callFunc_extern Tryd.prog 32 _ Extern.ReflectliteType.typeOf Tryd.func32 (by kernel_rfl) (by kernel_rfl) (by kernel_rfl) (by kernel_rfl)
  have tT := isTypeOf
  have cT := isComparable
  have mR := isMethodComparable
  have nW := noIsK
  have uW := hasUnwrapK
  have mU := methodUnwrapK
  have heq := run_eql_iface_ptr_same (P := Tryd.prog) w b Tryd.underlying49 Tryd.underlying83 hi hcmp hj
  have hty := run_eql_iface_types (P := Tryd.prog) 61 83 (.pointer (some k)) (.pointer (some b)) Tryd.underlying49 (by decide) w
  have hnn := fun v => run_eql_iface_nil_left (P := Tryd.prog) w 83 v Tryd.underlying49
  go_enter Tryd.func22, Tryd.ntmps22
  go_wp2
  refine wp_loop_rounds 2 ?_
  rw [rounds_succ]
  go_wp2
  rw [rounds_succ]
  go_wp2
  go_ret
  exact ⟨rfl, Below.refl _ _⟩
end Go.Proofs.YtnhlfbkpohidpaaDoor.PAll
