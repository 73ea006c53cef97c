/- errors.Is against header.errNone: nil, errNone itself, an errKind. -/
import Derived.Test.YtdlimghdimkadaaDoorHa
import Derived.LaidEql
import Derived.Stop.Asserts
import Derived.RowKitTokens
namespace Go.Proofs.YtdlimghdimkadaaDoor.PAll
open Go.RowKit Go.Proofs.YtdlimghdimkadaaDoorW.PrintWords Go.Proofs.YtdlimghdimkadaaDoorW.PrintLast Go.Proofs.YtdlimghdimkadaaDoor.Plain Go.Extern.Stop Go.Stop Go.Extern
set_option linter.unusedVariables false
set_option linter.unusedSimpArgs false
theorem isTypeOf (v : Value) (w : World) : (Extern.ReflectliteType.typeOf #[.iface 158 v]).run Tryd.prog w = .ok (.iface 148 (.agg #[typeHandle Tryd.prog 158])) w := by kernel_rfl
theorem isComparable (w : World) : (callFunc 98 #[.agg #[typeHandle Tryd.prog 158]]).run Tryd.prog w = .ok (.value (.bool true)) w := by kernel_rfl
theorem isMethodComparable (v : Value) (w : World) : (Go.method 295 148 v "Comparable").run Tryd.prog w = .ok (98, v) w := by kernel_rfl
theorem isComp : (Tryd.prog.info? 158).map (·.comparable) = some true := by kernel_rfl
theorem isSize : (Tryd.prog.info? 183).map (·.size) = some 1 := by kernel_rfl
theorem noIsE (v : Value) (xT : TypeId) (w : World) : (Instr.typeAssert (.iface 158 v) xT 150 true).run Tryd.prog w = .ok (.tuple #[.nilIface, .bool false]) w := run_typeAssert_lacksB Tryd.underlying150 (by kernel_rfl) (by kernel_rfl) v xT w
theorem noIsK (v : Value) (xT : TypeId) (w : World) : (Instr.typeAssert (.iface 137 v) xT 150 true).run Tryd.prog w = .ok (.tuple #[.nilIface, .bool false]) w := run_typeAssert_lacksB Tryd.underlying150 (by kernel_rfl) (by kernel_rfl) v xT w
theorem hasUnwrapK (v : Value) (xT : TypeId) (w : World) : (Instr.typeAssert (.iface 137 v) xT 153 true).run Tryd.prog w = .ok (.tuple #[.iface 137 v, .bool true]) w := run_typeAssert_hasB Tryd.underlying153 (by kernel_rfl) v xT w
theorem methodUnwrapK (v : Value) (w : World) : (Go.method 295 137 v "Unwrap").run Tryd.prog w = .ok (94, v) w := by kernel_rfl
/-- header.errNone is the sentinel at a. -/
abbrev gNone (w : World) (a : Addr) : Prop := w.cell? ⟨0, 0, none⟩ = some (.iface 158 (.pointer (some a)))
set_option maxRecDepth 100000 in
theorem is_none_same (a : Addr) (w : World) :
    Calls Tryd.prog 69 #[.iface 158 (.pointer (some a)), .iface 158 (.pointer (some a))] w fun e w' => e = .returned (.bool true) ∧ Below w.heap.size w w' := by
  obtain ⟨i, hi, hcmp⟩ := Option.map_eq_some_iff.1 isComp
  obtain ⟨j, hj, hjs⟩ := Option.map_eq_some_iff.1 isSize
  have h8 := @run_callFunc_extern Tryd.prog 73 _ Extern.ReflectliteType.typeOf Tryd.func73 (by kernel_rfl) (by kernel_rfl) (by kernel_rfl) (by kernel_rfl)
  have tT := isTypeOf
  have cT := isComparable
  have mR := isMethodComparable
  have heq := run_eql_iface_ptr_same (P := Tryd.prog) w a Tryd.underlying129 Tryd.underlying158 hi hcmp hj
  go_enter Tryd.func69, Tryd.ntmps69
  go_wp2
  refine wp_loop_rounds 1 ?_
  rw [rounds_succ]
  go_wp2
  go_ret
  exact ⟨rfl, Below.refl _ _⟩
set_option maxRecDepth 100000 in
theorem is_none_nil (b : Addr) (w : World) :
    Calls Tryd.prog 69 #[.nilIface, .iface 158 (.pointer (some b))] w fun e w' => e = .returned (.bool false) ∧ Below w.heap.size w w' := by
  have hn := run_eql_iface_nil_left (P := Tryd.prog) w 158 (.pointer (some b)) Tryd.underlying129
  go_enter Tryd.func69, Tryd.ntmps69
  go_wp2
  go_ret
  exact ⟨rfl, Below.refl _ _⟩
set_option maxRecDepth 100000 in
theorem is_none_kind (k b : Addr) (w : World) (hg : gNone w b) :
    Calls Tryd.prog 69 #[.iface 137 (.pointer (some k)), .iface 158 (.pointer (some b))] w fun e w' => e = .returned (.bool true) ∧ Below w.heap.size w w' := by
  obtain ⟨i, hi, hcmp⟩ := Option.map_eq_some_iff.1 isComp
  obtain ⟨j, hj, hjs⟩ := Option.map_eq_some_iff.1 isSize
  have h8 := @run_callFunc_extern Tryd.prog 73 _ Extern.ReflectliteType.typeOf Tryd.func73 (by kernel_rfl) (by kernel_rfl) (by kernel_rfl) (by kernel_rfl)
  have tT := isTypeOf
  have cT := isComparable
  have mR := isMethodComparable
  have nW := noIsK
  have uW := hasUnwrapK
  have mU := methodUnwrapK
  have heq := run_eql_iface_ptr_same (P := Tryd.prog) w b Tryd.underlying129 Tryd.underlying158 hi hcmp hj
  have hty := run_eql_iface_types (P := Tryd.prog) 137 158 (.pointer (some k)) (.pointer (some b)) Tryd.underlying129 (by decide) w
  have hnn := fun v => run_eql_iface_nil_left (P := Tryd.prog) w 158 v Tryd.underlying129
  go_enter Tryd.func69, Tryd.ntmps69
  go_wp2
  refine wp_loop_rounds 2 ?_
  rw [rounds_succ]
  go_wp2
  rw [rounds_succ]
  go_wp2
  go_ret
  exact ⟨rfl, Below.refl _ _⟩
end Go.Proofs.YtdlimghdimkadaaDoor.PAll
