import Derived.Test.YtdlimghdimkadaaDoorCg
namespace Go.Proofs.YtdlimghdimkadaaDoor.PAll
open Go.RowKit Go.Proofs.YtdlimghdimkadaaDoorW.PrintWords Go.Proofs.YtdlimghdimkadaaDoorW.PrintLast Go.Proofs.YtdlimghdimkadaaDoorW.PrintMore
set_option linter.unusedSimpArgs false
set_option linter.unusedVariables false
attribute [local go_sem] max2_int min2_int max_two min_two max_three min_three max_four min_four
/-- A number that has one bit alone, as the closure of nand.Right tells it. -/
def pow2 (n : Int) : Bool := if 0 < n then bits BinOp.and IntKind.i64 n (wrap64 (n - 1)) == 0 else false
set_option maxRecDepth 100000 in
theorem power_fn (n : Int) (W : World) : Calls Tryd.prog 51 #[.int .i64 n] W fun e w' => e = .returned (.bool (pow2 n)) ∧ Below W.heap.size W w' := by
  by_cases h : 0 < n
  · have d0 : decide (0 < n) = true := decide_eq_true h
    go_enter Tryd.func51, Tryd.ntmps51
    go_wp2
    go_ret
    refine ⟨?_, Below.refl _ _⟩
    unfold pow2
    rw [if_pos h]
    rfl
  · have d0 : decide (0 < n) = false := decide_eq_false h
    go_enter Tryd.func51, Tryd.ntmps51
    go_wp2
    go_ret
    refine ⟨?_, Below.refl _ _⟩
    unfold pow2
    rw [if_neg (Int.not_lt.2 h)]
    rfl
set_option maxRecDepth 100000 in
theorem right_0 (B P Z R : Int) (W : World) (c0 : decide ((16 : Int) ≤ B) = false) : Calls Tryd.prog 28 #[.agg #[.int .i64 B, .int .i64 P, .int .i64 Z, .int .i64 R]] W fun e w' => e = .returned (.bool false) ∧ Below W.heap.size W w' := by
  go_enter Tryd.func28, Tryd.ntmps28
  go_upto_region 1 with (fail)
  generalize hW : W.alloc (.cells #[.int .i64 B, .int .i64 P, .int .i64 Z, .int .i64 R] 37) = W1
  have hb : Below W.heap.size W W1 := by rw [← hW]; exact below_alloc (Below.refl _ _) _
  have hg : W1.heap[W.heap.size]? = some (.cells #[.int .i64 B, .int .i64 P, .int .i64 Z, .int .i64 R] 37 (0, 0)) := by rw [← hW]; exact new_blk _ _ _
  have g0 := fun (w' : World) (h : Below W1.heap.size W1 w') => Joins.cell_of_block (keep_below hg h) 0
  have g1 := fun (w' : World) (h : Below W1.heap.size W1 w') => Joins.cell_of_block (keep_below hg h) 1
  have g2 := fun (w' : World) (h : Below W1.heap.size W1 w') => Joins.cell_of_block (keep_below hg h) 2
  have g3 := fun (w' : World) (h : Below W1.heap.size W1 w') => Joins.cell_of_block (keep_below hg h) 3
  have G0 := Aside0.mk g0
  have G1 := Aside0.mk g1
  have G2 := Aside0.mk g2
  have G3 := Aside0.mk g3
  have HB := Aside0.mk hb
  have a0 := g0 W1 (Below.refl _ _)
  have a1 := g1 W1 (Below.refl _ _)
  have a2 := g2 W1 (Below.refl _ _)
  have a3 := g3 W1 (Below.refl _ _)
  clear hW hb hg g0 g1 g2 g3
  go_wp2
  go_ret
  exact ⟨rfl, HB.out⟩
set_option maxRecDepth 100000 in
theorem right_1 (B P Z R : Int) (W : World) (c0 : decide ((16 : Int) ≤ B) = true) (c1 : decide (B ≤ (256 : Int)) = false) : Calls Tryd.prog 28 #[.agg #[.int .i64 B, .int .i64 P, .int .i64 Z, .int .i64 R]] W fun e w' => e = .returned (.bool false) ∧ Below W.heap.size W w' := by
  go_enter Tryd.func28, Tryd.ntmps28
  go_upto_region 1 with (fail)
  generalize hW : W.alloc (.cells #[.int .i64 B, .int .i64 P, .int .i64 Z, .int .i64 R] 37) = W1
  have hb : Below W.heap.size W W1 := by rw [← hW]; exact below_alloc (Below.refl _ _) _
  have hg : W1.heap[W.heap.size]? = some (.cells #[.int .i64 B, .int .i64 P, .int .i64 Z, .int .i64 R] 37 (0, 0)) := by rw [← hW]; exact new_blk _ _ _
  have g0 := fun (w' : World) (h : Below W1.heap.size W1 w') => Joins.cell_of_block (keep_below hg h) 0
  have g1 := fun (w' : World) (h : Below W1.heap.size W1 w') => Joins.cell_of_block (keep_below hg h) 1
  have g2 := fun (w' : World) (h : Below W1.heap.size W1 w') => Joins.cell_of_block (keep_below hg h) 2
  have g3 := fun (w' : World) (h : Below W1.heap.size W1 w') => Joins.cell_of_block (keep_below hg h) 3
  have G0 := Aside0.mk g0
  have G1 := Aside0.mk g1
  have G2 := Aside0.mk g2
  have G3 := Aside0.mk g3
  have HB := Aside0.mk hb
  have a0 := g0 W1 (Below.refl _ _)
  have a1 := g1 W1 (Below.refl _ _)
  have a2 := g2 W1 (Below.refl _ _)
  have a3 := g3 W1 (Below.refl _ _)
  clear hW hb hg g0 g1 g2 g3
  go_wp2
  go_ret
  exact ⟨rfl, HB.out⟩
set_option maxRecDepth 100000 in
theorem right_2 (B P Z R : Int) (W : World) (c0 : decide ((16 : Int) ≤ B) = true) (c1 : decide (B ≤ (256 : Int)) = true) (c2 : decide ((8 : Int) ≤ P) = false) : Calls Tryd.prog 28 #[.agg #[.int .i64 B, .int .i64 P, .int .i64 Z, .int .i64 R]] W fun e w' => e = .returned (.bool false) ∧ Below W.heap.size W w' := by
  go_enter Tryd.func28, Tryd.ntmps28
  go_upto_region 1 with (fail)
  generalize hW : W.alloc (.cells #[.int .i64 B, .int .i64 P, .int .i64 Z, .int .i64 R] 37) = W1
  have hb : Below W.heap.size W W1 := by rw [← hW]; exact below_alloc (Below.refl _ _) _
  have hg : W1.heap[W.heap.size]? = some (.cells #[.int .i64 B, .int .i64 P, .int .i64 Z, .int .i64 R] 37 (0, 0)) := by rw [← hW]; exact new_blk _ _ _
  have g0 := fun (w' : World) (h : Below W1.heap.size W1 w') => Joins.cell_of_block (keep_below hg h) 0
  have g1 := fun (w' : World) (h : Below W1.heap.size W1 w') => Joins.cell_of_block (keep_below hg h) 1
  have g2 := fun (w' : World) (h : Below W1.heap.size W1 w') => Joins.cell_of_block (keep_below hg h) 2
  have g3 := fun (w' : World) (h : Below W1.heap.size W1 w') => Joins.cell_of_block (keep_below hg h) 3
  have G0 := Aside0.mk g0
  have G1 := Aside0.mk g1
  have G2 := Aside0.mk g2
  have G3 := Aside0.mk g3
  have HB := Aside0.mk hb
  have a0 := g0 W1 (Below.refl _ _)
  have a1 := g1 W1 (Below.refl _ _)
  have a2 := g2 W1 (Below.refl _ _)
  have a3 := g3 W1 (Below.refl _ _)
  clear hW hb hg g0 g1 g2 g3
  go_wp2
  go_ret
  exact ⟨rfl, HB.out⟩
set_option maxRecDepth 100000 in
theorem right_3 (B P Z R : Int) (W : World) (c0 : decide ((16 : Int) ≤ B) = true) (c1 : decide (B ≤ (256 : Int)) = true) (c2 : decide ((8 : Int) ≤ P) = true) (c3 : decide (P ≤ (64 : Int)) = false) : Calls Tryd.prog 28 #[.agg #[.int .i64 B, .int .i64 P, .int .i64 Z, .int .i64 R]] W fun e w' => e = .returned (.bool false) ∧ Below W.heap.size W w' := by
  go_enter Tryd.func28, Tryd.ntmps28
  go_upto_region 1 with (fail)
  generalize hW : W.alloc (.cells #[.int .i64 B, .int .i64 P, .int .i64 Z, .int .i64 R] 37) = W1
  have hb : Below W.heap.size W W1 := by rw [← hW]; exact below_alloc (Below.refl _ _) _
  have hg : W1.heap[W.heap.size]? = some (.cells #[.int .i64 B, .int .i64 P, .int .i64 Z, .int .i64 R] 37 (0, 0)) := by rw [← hW]; exact new_blk _ _ _
  have g0 := fun (w' : World) (h : Below W1.heap.size W1 w') => Joins.cell_of_block (keep_below hg h) 0
  have g1 := fun (w' : World) (h : Below W1.heap.size W1 w') => Joins.cell_of_block (keep_below hg h) 1
  have g2 := fun (w' : World) (h : Below W1.heap.size W1 w') => Joins.cell_of_block (keep_below hg h) 2
  have g3 := fun (w' : World) (h : Below W1.heap.size W1 w') => Joins.cell_of_block (keep_below hg h) 3
  have G0 := Aside0.mk g0
  have G1 := Aside0.mk g1
  have G2 := Aside0.mk g2
  have G3 := Aside0.mk g3
  have HB := Aside0.mk hb
  have a0 := g0 W1 (Below.refl _ _)
  have a1 := g1 W1 (Below.refl _ _)
  have a2 := g2 W1 (Below.refl _ _)
  have a3 := g3 W1 (Below.refl _ _)
  clear hW hb hg g0 g1 g2 g3
  go_wp2
  go_ret
  exact ⟨rfl, HB.out⟩
set_option maxRecDepth 100000 in
theorem right_4 (B P Z R : Int) (W : World) (c0 : decide ((16 : Int) ≤ B) = true) (c1 : decide (B ≤ (256 : Int)) = true) (c2 : decide ((8 : Int) ≤ P) = true) (c3 : decide (P ≤ (64 : Int)) = true) (c4 : pow2 P = false) : Calls Tryd.prog 28 #[.agg #[.int .i64 B, .int .i64 P, .int .i64 Z, .int .i64 R]] W fun e w' => e = .returned (.bool false) ∧ Below W.heap.size W w' := by
  go_enter Tryd.func28, Tryd.ntmps28
  go_upto_region 1 with (fail)
  generalize hW : W.alloc (.cells #[.int .i64 B, .int .i64 P, .int .i64 Z, .int .i64 R] 37) = W1
  have hb : Below W.heap.size W W1 := by rw [← hW]; exact below_alloc (Below.refl _ _) _
  have hg : W1.heap[W.heap.size]? = some (.cells #[.int .i64 B, .int .i64 P, .int .i64 Z, .int .i64 R] 37 (0, 0)) := by rw [← hW]; exact new_blk _ _ _
  have g0 := fun (w' : World) (h : Below W1.heap.size W1 w') => Joins.cell_of_block (keep_below hg h) 0
  have g1 := fun (w' : World) (h : Below W1.heap.size W1 w') => Joins.cell_of_block (keep_below hg h) 1
  have g2 := fun (w' : World) (h : Below W1.heap.size W1 w') => Joins.cell_of_block (keep_below hg h) 2
  have g3 := fun (w' : World) (h : Below W1.heap.size W1 w') => Joins.cell_of_block (keep_below hg h) 3
  have G0 := Aside0.mk g0
  have G1 := Aside0.mk g1
  have G2 := Aside0.mk g2
  have G3 := Aside0.mk g3
  have HB := Aside0.mk hb
  have a0 := g0 W1 (Below.refl _ _)
  have a1 := g1 W1 (Below.refl _ _)
  have a2 := g2 W1 (Below.refl _ _)
  have a3 := g3 W1 (Below.refl _ _)
  clear hW hb hg g0 g1 g2 g3
  go_wp2_with (first
    | (go_at_call 51; (with_reducible refine (power_fn P _).mono ?_); rintro e w2 ⟨rfl, hb2⟩; have HB2 := Aside0.mk hb2; clear hb2))
  go_ret
  exact ⟨rfl, below_step HB.out HB2.out⟩
set_option maxRecDepth 100000 in
theorem right_5 (B P Z R : Int) (W : World) (c0 : decide ((16 : Int) ≤ B) = true) (c1 : decide (B ≤ (256 : Int)) = true) (c2 : decide ((8 : Int) ≤ P) = true) (c3 : decide (P ≤ (64 : Int)) = true) (c4 : pow2 P = true) (c5 : decide ((64 : Int) ≤ Z) = false) : Calls Tryd.prog 28 #[.agg #[.int .i64 B, .int .i64 P, .int .i64 Z, .int .i64 R]] W fun e w' => e = .returned (.bool false) ∧ Below W.heap.size W w' := by
  go_enter Tryd.func28, Tryd.ntmps28
  go_upto_region 1 with (fail)
  generalize hW : W.alloc (.cells #[.int .i64 B, .int .i64 P, .int .i64 Z, .int .i64 R] 37) = W1
  have hb : Below W.heap.size W W1 := by rw [← hW]; exact below_alloc (Below.refl _ _) _
  have hg : W1.heap[W.heap.size]? = some (.cells #[.int .i64 B, .int .i64 P, .int .i64 Z, .int .i64 R] 37 (0, 0)) := by rw [← hW]; exact new_blk _ _ _
  have g0 := fun (w' : World) (h : Below W1.heap.size W1 w') => Joins.cell_of_block (keep_below hg h) 0
  have g1 := fun (w' : World) (h : Below W1.heap.size W1 w') => Joins.cell_of_block (keep_below hg h) 1
  have g2 := fun (w' : World) (h : Below W1.heap.size W1 w') => Joins.cell_of_block (keep_below hg h) 2
  have g3 := fun (w' : World) (h : Below W1.heap.size W1 w') => Joins.cell_of_block (keep_below hg h) 3
  have G0 := Aside0.mk g0
  have G1 := Aside0.mk g1
  have G2 := Aside0.mk g2
  have G3 := Aside0.mk g3
  have HB := Aside0.mk hb
  have a0 := g0 W1 (Below.refl _ _)
  have a1 := g1 W1 (Below.refl _ _)
  have a2 := g2 W1 (Below.refl _ _)
  have a3 := g3 W1 (Below.refl _ _)
  clear hW hb hg g0 g1 g2 g3
  go_wp2_with (first
    | (go_at_call 51; (with_reducible refine (power_fn P _).mono ?_); rintro e w2 ⟨rfl, hb2⟩; have HB2 := Aside0.mk hb2; have b0 := G0.out w2 hb2; have b1 := G1.out w2 hb2; have b2 := G2.out w2 hb2; have b3 := G3.out w2 hb2; clear hb2))
  go_ret
  exact ⟨rfl, below_step HB.out HB2.out⟩
set_option maxRecDepth 100000 in
theorem right_6 (B P Z R : Int) (W : World) (c0 : decide ((16 : Int) ≤ B) = true) (c1 : decide (B ≤ (256 : Int)) = true) (c2 : decide ((8 : Int) ≤ P) = true) (c3 : decide (P ≤ (64 : Int)) = true) (c4 : pow2 P = true) (c5 : decide ((64 : Int) ≤ Z) = true) (c6 : decide (Z ≤ (512 : Int)) = false) : Calls Tryd.prog 28 #[.agg #[.int .i64 B, .int .i64 P, .int .i64 Z, .int .i64 R]] W fun e w' => e = .returned (.bool false) ∧ Below W.heap.size W w' := by
  go_enter Tryd.func28, Tryd.ntmps28
  go_upto_region 1 with (fail)
  generalize hW : W.alloc (.cells #[.int .i64 B, .int .i64 P, .int .i64 Z, .int .i64 R] 37) = W1
  have hb : Below W.heap.size W W1 := by rw [← hW]; exact below_alloc (Below.refl _ _) _
  have hg : W1.heap[W.heap.size]? = some (.cells #[.int .i64 B, .int .i64 P, .int .i64 Z, .int .i64 R] 37 (0, 0)) := by rw [← hW]; exact new_blk _ _ _
  have g0 := fun (w' : World) (h : Below W1.heap.size W1 w') => Joins.cell_of_block (keep_below hg h) 0
  have g1 := fun (w' : World) (h : Below W1.heap.size W1 w') => Joins.cell_of_block (keep_below hg h) 1
  have g2 := fun (w' : World) (h : Below W1.heap.size W1 w') => Joins.cell_of_block (keep_below hg h) 2
  have g3 := fun (w' : World) (h : Below W1.heap.size W1 w') => Joins.cell_of_block (keep_below hg h) 3
  have G0 := Aside0.mk g0
  have G1 := Aside0.mk g1
  have G2 := Aside0.mk g2
  have G3 := Aside0.mk g3
  have HB := Aside0.mk hb
  have a0 := g0 W1 (Below.refl _ _)
  have a1 := g1 W1 (Below.refl _ _)
  have a2 := g2 W1 (Below.refl _ _)
  have a3 := g3 W1 (Below.refl _ _)
  clear hW hb hg g0 g1 g2 g3
  go_wp2_with (first
    | (go_at_call 51; (with_reducible refine (power_fn P _).mono ?_); rintro e w2 ⟨rfl, hb2⟩; have HB2 := Aside0.mk hb2; have b0 := G0.out w2 hb2; have b1 := G1.out w2 hb2; have b2 := G2.out w2 hb2; have b3 := G3.out w2 hb2; clear hb2))
  go_ret
  exact ⟨rfl, below_step HB.out HB2.out⟩
set_option maxRecDepth 100000 in
theorem right_7 (B P Z R : Int) (W : World) (c0 : decide ((16 : Int) ≤ B) = true) (c1 : decide (B ≤ (256 : Int)) = true) (c2 : decide ((8 : Int) ≤ P) = true) (c3 : decide (P ≤ (64 : Int)) = true) (c4 : pow2 P = true) (c5 : decide ((64 : Int) ≤ Z) = true) (c6 : decide (Z ≤ (512 : Int)) = true) (c7 : pow2 Z = false) : Calls Tryd.prog 28 #[.agg #[.int .i64 B, .int .i64 P, .int .i64 Z, .int .i64 R]] W fun e w' => e = .returned (.bool false) ∧ Below W.heap.size W w' := by
  go_enter Tryd.func28, Tryd.ntmps28
  go_upto_region 1 with (fail)
  generalize hW : W.alloc (.cells #[.int .i64 B, .int .i64 P, .int .i64 Z, .int .i64 R] 37) = W1
  have hb : Below W.heap.size W W1 := by rw [← hW]; exact below_alloc (Below.refl _ _) _
  have hg : W1.heap[W.heap.size]? = some (.cells #[.int .i64 B, .int .i64 P, .int .i64 Z, .int .i64 R] 37 (0, 0)) := by rw [← hW]; exact new_blk _ _ _
  have g0 := fun (w' : World) (h : Below W1.heap.size W1 w') => Joins.cell_of_block (keep_below hg h) 0
  have g1 := fun (w' : World) (h : Below W1.heap.size W1 w') => Joins.cell_of_block (keep_below hg h) 1
  have g2 := fun (w' : World) (h : Below W1.heap.size W1 w') => Joins.cell_of_block (keep_below hg h) 2
  have g3 := fun (w' : World) (h : Below W1.heap.size W1 w') => Joins.cell_of_block (keep_below hg h) 3
  have G0 := Aside0.mk g0
  have G1 := Aside0.mk g1
  have G2 := Aside0.mk g2
  have G3 := Aside0.mk g3
  have HB := Aside0.mk hb
  have a0 := g0 W1 (Below.refl _ _)
  have a1 := g1 W1 (Below.refl _ _)
  have a2 := g2 W1 (Below.refl _ _)
  have a3 := g3 W1 (Below.refl _ _)
  clear hW hb hg g0 g1 g2 g3
  go_wp2_with (first
    | (go_at_call 51; (with_reducible refine (power_fn P _).mono ?_); rintro e w2 ⟨rfl, hb2⟩; have HB2 := Aside0.mk hb2; have b0 := G0.out w2 hb2; have b1 := G1.out w2 hb2; have b2 := G2.out w2 hb2; have b3 := G3.out w2 hb2; clear hb2)
    | (go_at_call 51; (with_reducible refine (power_fn Z _).mono ?_); rintro e w3 ⟨rfl, hb3⟩; have HB3 := Aside0.mk (below_step HB2.out hb3); clear hb3))
  go_ret
  exact ⟨rfl, below_step HB.out HB3.out⟩
set_option maxRecDepth 100000 in
theorem right_8 (B P Z R : Int) (W : World) (c0 : decide ((16 : Int) ≤ B) = true) (c1 : decide (B ≤ (256 : Int)) = true) (c2 : decide ((8 : Int) ≤ P) = true) (c3 : decide (P ≤ (64 : Int)) = true) (c4 : pow2 P = true) (c5 : decide ((64 : Int) ≤ Z) = true) (c6 : decide (Z ≤ (512 : Int)) = true) (c7 : pow2 Z = true) (c8 : decide ((1536 : Int) ≤ wrap64 (wrap64 (P - 2) * Z)) = false) : Calls Tryd.prog 28 #[.agg #[.int .i64 B, .int .i64 P, .int .i64 Z, .int .i64 R]] W fun e w' => e = .returned (.bool false) ∧ Below W.heap.size W w' := by
  go_enter Tryd.func28, Tryd.ntmps28
  go_upto_region 1 with (fail)
  generalize hW : W.alloc (.cells #[.int .i64 B, .int .i64 P, .int .i64 Z, .int .i64 R] 37) = W1
  have hb : Below W.heap.size W W1 := by rw [← hW]; exact below_alloc (Below.refl _ _) _
  have hg : W1.heap[W.heap.size]? = some (.cells #[.int .i64 B, .int .i64 P, .int .i64 Z, .int .i64 R] 37 (0, 0)) := by rw [← hW]; exact new_blk _ _ _
  have g0 := fun (w' : World) (h : Below W1.heap.size W1 w') => Joins.cell_of_block (keep_below hg h) 0
  have g1 := fun (w' : World) (h : Below W1.heap.size W1 w') => Joins.cell_of_block (keep_below hg h) 1
  have g2 := fun (w' : World) (h : Below W1.heap.size W1 w') => Joins.cell_of_block (keep_below hg h) 2
  have g3 := fun (w' : World) (h : Below W1.heap.size W1 w') => Joins.cell_of_block (keep_below hg h) 3
  have G0 := Aside0.mk g0
  have G1 := Aside0.mk g1
  have G2 := Aside0.mk g2
  have G3 := Aside0.mk g3
  have HB := Aside0.mk hb
  have a0 := g0 W1 (Below.refl _ _)
  have a1 := g1 W1 (Below.refl _ _)
  have a2 := g2 W1 (Below.refl _ _)
  have a3 := g3 W1 (Below.refl _ _)
  clear hW hb hg g0 g1 g2 g3
  go_wp2_with (first
    | (go_at_call 51; (with_reducible refine (power_fn P _).mono ?_); rintro e w2 ⟨rfl, hb2⟩; have HB2 := Aside0.mk hb2; have b0 := G0.out w2 hb2; have b1 := G1.out w2 hb2; have b2 := G2.out w2 hb2; have b3 := G3.out w2 hb2; clear hb2)
    | (go_at_call 51; (with_reducible refine (power_fn Z _).mono ?_); rintro e w3 ⟨rfl, hb3⟩; have hb4 := below_step HB2.out hb3; have HB3 := Aside0.mk hb4; have e0 := G0.out w3 hb4; have e1 := G1.out w3 hb4; have e2 := G2.out w3 hb4; have e3 := G3.out w3 hb4; clear hb3 hb4))
  go_ret
  exact ⟨rfl, below_step HB.out HB3.out⟩
set_option maxRecDepth 100000 in
theorem right_9 (B P Z R : Int) (W : World) (c0 : decide ((16 : Int) ≤ B) = true) (c1 : decide (B ≤ (256 : Int)) = true) (c2 : decide ((8 : Int) ≤ P) = true) (c3 : decide (P ≤ (64 : Int)) = true) (c4 : pow2 P = true) (c5 : decide ((64 : Int) ≤ Z) = true) (c6 : decide (Z ≤ (512 : Int)) = true) (c7 : pow2 Z = true) (c8 : decide ((1536 : Int) ≤ wrap64 (wrap64 (P - 2) * Z)) = true) (c9 : decide ((0 : Int) ≤ R) = false) : Calls Tryd.prog 28 #[.agg #[.int .i64 B, .int .i64 P, .int .i64 Z, .int .i64 R]] W fun e w' => e = .returned (.bool false) ∧ Below W.heap.size W w' := by
  go_enter Tryd.func28, Tryd.ntmps28
  go_upto_region 1 with (fail)
  generalize hW : W.alloc (.cells #[.int .i64 B, .int .i64 P, .int .i64 Z, .int .i64 R] 37) = W1
  have hb : Below W.heap.size W W1 := by rw [← hW]; exact below_alloc (Below.refl _ _) _
  have hg : W1.heap[W.heap.size]? = some (.cells #[.int .i64 B, .int .i64 P, .int .i64 Z, .int .i64 R] 37 (0, 0)) := by rw [← hW]; exact new_blk _ _ _
  have g0 := fun (w' : World) (h : Below W1.heap.size W1 w') => Joins.cell_of_block (keep_below hg h) 0
  have g1 := fun (w' : World) (h : Below W1.heap.size W1 w') => Joins.cell_of_block (keep_below hg h) 1
  have g2 := fun (w' : World) (h : Below W1.heap.size W1 w') => Joins.cell_of_block (keep_below hg h) 2
  have g3 := fun (w' : World) (h : Below W1.heap.size W1 w') => Joins.cell_of_block (keep_below hg h) 3
  have G0 := Aside0.mk g0
  have G1 := Aside0.mk g1
  have G2 := Aside0.mk g2
  have G3 := Aside0.mk g3
  have HB := Aside0.mk hb
  have a0 := g0 W1 (Below.refl _ _)
  have a1 := g1 W1 (Below.refl _ _)
  have a2 := g2 W1 (Below.refl _ _)
  have a3 := g3 W1 (Below.refl _ _)
  clear hW hb hg g0 g1 g2 g3
  go_wp2_with (first
    | (go_at_call 51; (with_reducible refine (power_fn P _).mono ?_); rintro e w2 ⟨rfl, hb2⟩; have HB2 := Aside0.mk hb2; have b0 := G0.out w2 hb2; have b1 := G1.out w2 hb2; have b2 := G2.out w2 hb2; have b3 := G3.out w2 hb2; clear hb2)
    | (go_at_call 51; (with_reducible refine (power_fn Z _).mono ?_); rintro e w3 ⟨rfl, hb3⟩; have hb4 := below_step HB2.out hb3; have HB3 := Aside0.mk hb4; have e0 := G0.out w3 hb4; have e1 := G1.out w3 hb4; have e2 := G2.out w3 hb4; have e3 := G3.out w3 hb4; clear hb3 hb4))
  go_ret
  exact ⟨rfl, below_step HB.out HB3.out⟩
set_option maxRecDepth 100000 in
theorem right_10 (B P Z R : Int) (W : World) (c0 : decide ((16 : Int) ≤ B) = true) (c1 : decide (B ≤ (256 : Int)) = true) (c2 : decide ((8 : Int) ≤ P) = true) (c3 : decide (P ≤ (64 : Int)) = true) (c4 : pow2 P = true) (c5 : decide ((64 : Int) ≤ Z) = true) (c6 : decide (Z ≤ (512 : Int)) = true) (c7 : pow2 Z = true) (c8 : decide ((1536 : Int) ≤ wrap64 (wrap64 (P - 2) * Z)) = true) (c9 : decide ((0 : Int) ≤ R) = true) (c10 : decide (R ≤ wrap64 (B.tdiv 4)) = false) : Calls Tryd.prog 28 #[.agg #[.int .i64 B, .int .i64 P, .int .i64 Z, .int .i64 R]] W fun e w' => e = .returned (.bool false) ∧ Below W.heap.size W w' := by
  go_enter Tryd.func28, Tryd.ntmps28
  go_upto_region 1 with (fail)
  generalize hW : W.alloc (.cells #[.int .i64 B, .int .i64 P, .int .i64 Z, .int .i64 R] 37) = W1
  have hb : Below W.heap.size W W1 := by rw [← hW]; exact below_alloc (Below.refl _ _) _
  have hg : W1.heap[W.heap.size]? = some (.cells #[.int .i64 B, .int .i64 P, .int .i64 Z, .int .i64 R] 37 (0, 0)) := by rw [← hW]; exact new_blk _ _ _
  have g0 := fun (w' : World) (h : Below W1.heap.size W1 w') => Joins.cell_of_block (keep_below hg h) 0
  have g1 := fun (w' : World) (h : Below W1.heap.size W1 w') => Joins.cell_of_block (keep_below hg h) 1
  have g2 := fun (w' : World) (h : Below W1.heap.size W1 w') => Joins.cell_of_block (keep_below hg h) 2
  have g3 := fun (w' : World) (h : Below W1.heap.size W1 w') => Joins.cell_of_block (keep_below hg h) 3
  have G0 := Aside0.mk g0
  have G1 := Aside0.mk g1
  have G2 := Aside0.mk g2
  have G3 := Aside0.mk g3
  have HB := Aside0.mk hb
  have a0 := g0 W1 (Below.refl _ _)
  have a1 := g1 W1 (Below.refl _ _)
  have a2 := g2 W1 (Below.refl _ _)
  have a3 := g3 W1 (Below.refl _ _)
  clear hW hb hg g0 g1 g2 g3
  go_wp2_with (first
    | (go_at_call 51; (with_reducible refine (power_fn P _).mono ?_); rintro e w2 ⟨rfl, hb2⟩; have HB2 := Aside0.mk hb2; have b0 := G0.out w2 hb2; have b1 := G1.out w2 hb2; have b2 := G2.out w2 hb2; have b3 := G3.out w2 hb2; clear hb2)
    | (go_at_call 51; (with_reducible refine (power_fn Z _).mono ?_); rintro e w3 ⟨rfl, hb3⟩; have hb4 := below_step HB2.out hb3; have HB3 := Aside0.mk hb4; have e0 := G0.out w3 hb4; have e1 := G1.out w3 hb4; have e2 := G2.out w3 hb4; have e3 := G3.out w3 hb4; clear hb3 hb4))
  go_ret
  exact ⟨rfl, below_step HB.out HB3.out⟩
set_option maxRecDepth 100000 in
theorem right_11 (B P Z R : Int) (W : World) (c0 : decide ((16 : Int) ≤ B) = true) (c1 : decide (B ≤ (256 : Int)) = true) (c2 : decide ((8 : Int) ≤ P) = true) (c3 : decide (P ≤ (64 : Int)) = true) (c4 : pow2 P = true) (c5 : decide ((64 : Int) ≤ Z) = true) (c6 : decide (Z ≤ (512 : Int)) = true) (c7 : pow2 Z = true) (c8 : decide ((1536 : Int) ≤ wrap64 (wrap64 (P - 2) * Z)) = true) (c9 : decide ((0 : Int) ≤ R) = true) (c10 : decide (R ≤ wrap64 (B.tdiv 4)) = true) : Calls Tryd.prog 28 #[.agg #[.int .i64 B, .int .i64 P, .int .i64 Z, .int .i64 R]] W fun e w' => e = .returned (.bool true) ∧ Below W.heap.size W w' := by
  go_enter Tryd.func28, Tryd.ntmps28
  go_upto_region 1 with (fail)
  generalize hW : W.alloc (.cells #[.int .i64 B, .int .i64 P, .int .i64 Z, .int .i64 R] 37) = W1
  have hb : Below W.heap.size W W1 := by rw [← hW]; exact below_alloc (Below.refl _ _) _
  have hg : W1.heap[W.heap.size]? = some (.cells #[.int .i64 B, .int .i64 P, .int .i64 Z, .int .i64 R] 37 (0, 0)) := by rw [← hW]; exact new_blk _ _ _
  have g0 := fun (w' : World) (h : Below W1.heap.size W1 w') => Joins.cell_of_block (keep_below hg h) 0
  have g1 := fun (w' : World) (h : Below W1.heap.size W1 w') => Joins.cell_of_block (keep_below hg h) 1
  have g2 := fun (w' : World) (h : Below W1.heap.size W1 w') => Joins.cell_of_block (keep_below hg h) 2
  have g3 := fun (w' : World) (h : Below W1.heap.size W1 w') => Joins.cell_of_block (keep_below hg h) 3
  have G0 := Aside0.mk g0
  have G1 := Aside0.mk g1
  have G2 := Aside0.mk g2
  have G3 := Aside0.mk g3
  have HB := Aside0.mk hb
  have a0 := g0 W1 (Below.refl _ _)
  have a1 := g1 W1 (Below.refl _ _)
  have a2 := g2 W1 (Below.refl _ _)
  have a3 := g3 W1 (Below.refl _ _)
  clear hW hb hg g0 g1 g2 g3
  go_wp2_with (first
    | (go_at_call 51; (with_reducible refine (power_fn P _).mono ?_); rintro e w2 ⟨rfl, hb2⟩; have HB2 := Aside0.mk hb2; have b0 := G0.out w2 hb2; have b1 := G1.out w2 hb2; have b2 := G2.out w2 hb2; have b3 := G3.out w2 hb2; clear hb2)
    | (go_at_call 51; (with_reducible refine (power_fn Z _).mono ?_); rintro e w3 ⟨rfl, hb3⟩; have hb4 := below_step HB2.out hb3; have HB3 := Aside0.mk hb4; have e0 := G0.out w3 hb4; have e1 := G1.out w3 hb4; have e2 := G2.out w3 hb4; have e3 := G3.out w3 hb4; clear hb3 hb4))
  go_ret
  exact ⟨rfl, below_step HB.out HB3.out⟩
def rightG (B P Z R : Int) : Bool := decide ((16 : Int) ≤ B) && (decide (B ≤ (256 : Int)) && (decide ((8 : Int) ≤ P) && (decide (P ≤ (64 : Int)) && (pow2 P && (decide ((64 : Int) ≤ Z) && (decide (Z ≤ (512 : Int)) && (pow2 Z && (decide ((1536 : Int) ≤ wrap64 (wrap64 (P - 2) * Z)) && (decide ((0 : Int) ≤ R) && (decide (R ≤ wrap64 (B.tdiv 4))))))))))))
theorem right_is (B P Z R : Int) (W : World) : Calls Tryd.prog 28 #[.agg #[.int .i64 B, .int .i64 P, .int .i64 Z, .int .i64 R]] W fun e w' => e = .returned (.bool (rightG B P Z R)) ∧ Below W.heap.size W w' := by
  cases c0 : decide ((16 : Int) ≤ B) with
  | false => refine (right_0 B P Z R W c0).mono ?_; rintro e w' ⟨rfl, hb⟩; exact ⟨by unfold rightG; simp only [c0, Bool.true_and, Bool.false_and], hb⟩
  | true =>
  cases c1 : decide (B ≤ (256 : Int)) with
  | false => refine (right_1 B P Z R W c0 c1).mono ?_; rintro e w' ⟨rfl, hb⟩; exact ⟨by unfold rightG; simp only [c0, c1, Bool.true_and, Bool.false_and], hb⟩
  | true =>
  cases c2 : decide ((8 : Int) ≤ P) with
  | false => refine (right_2 B P Z R W c0 c1 c2).mono ?_; rintro e w' ⟨rfl, hb⟩; exact ⟨by unfold rightG; simp only [c0, c1, c2, Bool.true_and, Bool.false_and], hb⟩
  | true =>
  cases c3 : decide (P ≤ (64 : Int)) with
  | false => refine (right_3 B P Z R W c0 c1 c2 c3).mono ?_; rintro e w' ⟨rfl, hb⟩; exact ⟨by unfold rightG; simp only [c0, c1, c2, c3, Bool.true_and, Bool.false_and], hb⟩
  | true =>
  cases c4 : pow2 P with
  | false => refine (right_4 B P Z R W c0 c1 c2 c3 c4).mono ?_; rintro e w' ⟨rfl, hb⟩; exact ⟨by unfold rightG; simp only [c0, c1, c2, c3, c4, Bool.true_and, Bool.false_and], hb⟩
  | true =>
  cases c5 : decide ((64 : Int) ≤ Z) with
  | false => refine (right_5 B P Z R W c0 c1 c2 c3 c4 c5).mono ?_; rintro e w' ⟨rfl, hb⟩; exact ⟨by unfold rightG; simp only [c0, c1, c2, c3, c4, c5, Bool.true_and, Bool.false_and], hb⟩
  | true =>
  cases c6 : decide (Z ≤ (512 : Int)) with
  | false => refine (right_6 B P Z R W c0 c1 c2 c3 c4 c5 c6).mono ?_; rintro e w' ⟨rfl, hb⟩; exact ⟨by unfold rightG; simp only [c0, c1, c2, c3, c4, c5, c6, Bool.true_and, Bool.false_and], hb⟩
  | true =>
  cases c7 : pow2 Z with
  | false => refine (right_7 B P Z R W c0 c1 c2 c3 c4 c5 c6 c7).mono ?_; rintro e w' ⟨rfl, hb⟩; exact ⟨by unfold rightG; simp only [c0, c1, c2, c3, c4, c5, c6, c7, Bool.true_and, Bool.false_and], hb⟩
  | true =>
  cases c8 : decide ((1536 : Int) ≤ wrap64 (wrap64 (P - 2) * Z)) with
  | false => refine (right_8 B P Z R W c0 c1 c2 c3 c4 c5 c6 c7 c8).mono ?_; rintro e w' ⟨rfl, hb⟩; exact ⟨by unfold rightG; simp only [c0, c1, c2, c3, c4, c5, c6, c7, c8, Bool.true_and, Bool.false_and], hb⟩
  | true =>
  cases c9 : decide ((0 : Int) ≤ R) with
  | false => refine (right_9 B P Z R W c0 c1 c2 c3 c4 c5 c6 c7 c8 c9).mono ?_; rintro e w' ⟨rfl, hb⟩; exact ⟨by unfold rightG; simp only [c0, c1, c2, c3, c4, c5, c6, c7, c8, c9, Bool.true_and, Bool.false_and], hb⟩
  | true =>
  cases c10 : decide (R ≤ wrap64 (B.tdiv 4)) with
  | false => refine (right_10 B P Z R W c0 c1 c2 c3 c4 c5 c6 c7 c8 c9 c10).mono ?_; rintro e w' ⟨rfl, hb⟩; exact ⟨by unfold rightG; simp only [c0, c1, c2, c3, c4, c5, c6, c7, c8, c9, c10, Bool.true_and, Bool.false_and], hb⟩
  | true =>
  refine (right_11 B P Z R W c0 c1 c2 c3 c4 c5 c6 c7 c8 c9 c10).mono ?_; rintro e w' ⟨rfl, hb⟩; exact ⟨by unfold rightG; simp only [c0, c1, c2, c3, c4, c5, c6, c7, c8, c9, c10, Bool.true_and], hb⟩
end Go.Proofs.YtdlimghdimkadaaDoor.PAll
