import Derived.Test.YtnhlfbkpohidpaaNf
namespace Go.Proofs.Ytnhlfbkpohidpaa.PAll
open Go.RowKit Go.Proofs.YtnhlfbkpohidpaaW.PrintWords Go.Proofs.YtnhlfbkpohidpaaW.PrintLast Go.Proofs.YtnhlfbkpohidpaaW.PrintMore
set_option linter.unusedSimpArgs false
set_option linter.unusedVariables false
attribute [local go_sem] max2_int min2_int max_two min_two max_three min_three max_four min_four
set_option maxRecDepth 100000 in
set_option maxHeartbeats 8000000 in
theorem nils_is (n p : Int) (v1 v2 : Value) (w : World) : Calls Try.prog 5 #[.int .i64 n, .int .i64 p, v1, v2] w fun e w' => e = .returned (.bool true) ∧ Below w.heap.size w w' := by
  go_enter Try.func5, Try.ntmps5
  go_upto_region 2 with (fail)
  go_wp2_with (first
    | (go_at_call 9; (with_reducible refine (read_nil n p _).mono ?_); rintro e z0 ⟨rfl, hy⟩; have HZ0 := Aside0.mk (hy); clear hy)
    | (go_at_call 11; (with_reducible refine (program_nil n p v1 _).mono ?_); rintro e z1 ⟨rfl, hy⟩; have HZ1 := Aside0.mk (below_step HZ0.out hy); clear hy)
    | (go_at_call 12; (with_reducible refine (erase_nil n _).mono ?_); rintro e z2 ⟨rfl, hy⟩; have HZ2 := Aside0.mk (below_step HZ1.out hy); clear hy)
    | (go_at_call 13; (with_reducible refine (mark_nil n _).mono ?_); rintro e z3 ⟨rfl, hy⟩; have HZ3 := Aside0.mk (below_step HZ2.out hy); clear hy)
    | (go_at_call 15; (with_reducible refine (arm_nil v2 _).mono ?_); rintro e z4 ⟨rfl, hy⟩; have HZ4 := Aside0.mk (below_step HZ3.out hy); clear hy)
    | (go_at_call 19; (with_reducible refine (bad_nil n _).mono ?_); rintro e z5 ⟨rfl, hy⟩; have HZ5 := Aside0.mk (below_step HZ4.out hy); clear hy)
    | (go_at_call 16; (with_reducible refine (on_nil _).mono ?_); rintro e z6 ⟨rfl, hy⟩; have HZ6 := Aside0.mk (below_step HZ5.out hy); clear hy)
    | (go_at_call 10; (with_reducible refine (next_nil n _).mono ?_); rintro e z7 ⟨rfl, hy⟩; have HZ7 := Aside0.mk (below_step HZ6.out hy); clear hy)
    | (go_at_call 20; (with_reducible refine (ops_nil _).mono ?_); rintro e z8 ⟨rfl, hy⟩; have HZ8 := Aside0.mk (below_step HZ7.out hy); clear hy)
    | (go_at_call 18; (with_reducible refine (wrong_nil _).mono ?_); rintro e z9 ⟨rfl, hy⟩; have HZ9 := Aside0.mk (below_step HZ8.out hy); clear hy)
    | (go_at_call 21; (with_reducible refine (erases_nil n _).mono ?_); rintro e z10 ⟨rfl, hy⟩; have HZ10 := Aside0.mk (below_step HZ9.out hy); clear hy)
    | (go_at_call 22; (with_reducible refine (clone_nil _).mono ?_); rintro e z11 ⟨rfl, hy⟩; have HZ11 := Aside0.mk (below_step HZ10.out hy); clear hy)
    | (go_at_call 23; (with_reducible refine (geometry_nil _).mono ?_); rintro e z12 ⟨rfl, hy⟩; have HZ12 := Aside0.mk (below_step HZ11.out hy); clear hy)
    | (go_at_call 8; (with_reducible refine (alive_is _).mono ?_); rintro e z13 ⟨rfl, hy⟩; have HZ13 := Aside0.mk (below_step HZ12.out hy); clear hy))
  go_ret
  exact ⟨rfl, HZ13.out⟩
end Go.Proofs.Ytnhlfbkpohidpaa.PAll
