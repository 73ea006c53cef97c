import Derived.Test.YtnhlfbkpohidpaaNb
namespace Go.Proofs.Ytnhlfbkpohidpaa.PAll
open Go.RowKit Go.Proofs.YtnhlfbkpohidpaaW.PrintWords Go.Proofs.YtnhlfbkpohidpaaW.PrintLast Go.Proofs.YtnhlfbkpohidpaaW.PrintMore
set_option linter.unusedSimpArgs false
set_option linter.unusedVariables false
attribute [local go_sem] max2_int min2_int max_two min_two max_three min_three max_four min_four
/-! ### nand.New, of the laws' geometry and no plan -/
set_option maxRecDepth 100000 in
theorem power16 (W : World) : Calls Try.prog 35 #[.int .i64 16] W fun e w' => e = .returned (.bool true) ∧ Below W.heap.size W w' := by
  go_enter Try.func35, Try.ntmps35
  go_wp2
  go_ret
  exact ⟨rfl, Below.refl _ _⟩
set_option maxRecDepth 100000 in
theorem power128 (W : World) : Calls Try.prog 35 #[.int .i64 128] W fun e w' => e = .returned (.bool true) ∧ Below W.heap.size W w' := by
  go_enter Try.func35, Try.ntmps35
  go_wp2
  go_ret
  exact ⟨rfl, Below.refl _ _⟩
abbrev gSmall : Value := .agg #[.int .i64 16, .int .i64 16, .int .i64 128, .int .i64 2]
set_option maxRecDepth 100000 in
theorem right_small (W : World) : Calls Try.prog 24 #[gSmall] W fun e w' => e = .returned (.bool true) ∧ Below W.heap.size W w' := by
  go_enter Try.func24, Try.ntmps24
  go_upto_region 1 with (fail)
  generalize hW : W.alloc (.cells #[.int .i64 16, .int .i64 16, .int .i64 128, .int .i64 2] 28) = W1
  have hb : Below W.heap.size W W1 := by rw [← hW]; exact below_alloc (Below.refl _ _) _
  have hg : W1.heap[W.heap.size]? = some (.cells #[.int .i64 16, .int .i64 16, .int .i64 128, .int .i64 2] 28 (0, 0)) := by rw [← hW]; exact new_blk _ _ _
  have g0 := fun (w' : World) (h : Below W1.heap.size W1 w') => Joins.cell_of_block (keep_below hg h) 0
  have g1 := fun (w' : World) (h : Below W1.heap.size W1 w') => Joins.cell_of_block (keep_below hg h) 1
  have g2 := fun (w' : World) (h : Below W1.heap.size W1 w') => Joins.cell_of_block (keep_below hg h) 2
  have g3 := fun (w' : World) (h : Below W1.heap.size W1 w') => Joins.cell_of_block (keep_below hg h) 3
  have G0 := Aside0.mk g0
  have G1 := Aside0.mk g1
  have G2 := Aside0.mk g2
  have G3 := Aside0.mk g3
  have HB := Aside0.mk hb
  have a0 := g0 W1 (Below.refl _ _)
  have a1 := g1 W1 (Below.refl _ _)
  have a2 := g2 W1 (Below.refl _ _)
  have a3 := g3 W1 (Below.refl _ _)
  clear hW hb hg g0 g1 g2 g3
  go_wp2_with (first
    | (go_at_call 35; (with_reducible refine (power16 _).mono ?_); rintro e w2 ⟨rfl, hb2⟩; have HB2 := Aside0.mk hb2; have b0 := G0.out w2 hb2; have b1 := G1.out w2 hb2; have b2 := G2.out w2 hb2; have b3 := G3.out w2 hb2; clear hb2)
    | (go_at_call 35; (with_reducible refine (power128 _).mono ?_); rintro e w3 ⟨rfl, hb3⟩; have hb4 := below_step HB2.out hb3; have HB3 := Aside0.mk hb4; have e0 := G0.out w3 hb4; have e1 := G1.out w3 hb4; have e2 := G2.out w3 hb4; have e3 := G3.out w3 hb4; clear hb3 hb4))
  go_ret
  exact ⟨rfl, below_step HB.out HB3.out⟩
set_option maxRecDepth 100000 in
theorem rightPlan_nil (W : World) : Calls Try.prog 25 #[.slice none 0 0] W fun e w' => e = .returned (.bool true) ∧ Below W.heap.size W w' := by
  go_enter Try.func25, Try.ntmps25
  go_wp2
  refine wp_loop_rounds 1 ?_
  rw [rounds_succ]
  go_wp2
  go_ret
  exact ⟨rfl, Below.refl _ _⟩
set_option maxRecDepth 100000 in
theorem clone44_nil (W : World) : Calls Try.prog 26 #[.slice none 0 0] W fun e w' => e = .returned (.slice none 0 0) ∧ Below W.heap.size W w' := by
  have hnil := fun W : World => Lib.run_eql_slice_nil (P := Try.prog) W 32 44 none 0 0 0 0 Try.underlying32
  go_enter Try.func26, Try.ntmps26
  go_wp2
  go_ret
  exact ⟨rfl, Below.refl _ _⟩
set_option maxRecDepth 100000 in
theorem small_is (W : World) : Calls Try.prog 7 #[] W fun e w' => e = .returned gSmall ∧ Below W.heap.size W w' := by
  have hu28 := Try.underlying28
  go_enter Try.func7, Try.ntmps7
  go_wp2
  refine bodyPost_ret (results_cell_row rfl _ _ W.heap.size 28 #[.int .i64 16, .int .i64 16, .int .i64 128, .int .i64 2] (0, 0) _ rfl (new_blk _ _ _) Try.underlying28 rfl (by kernel_rfl)) rfl ?_
  exact ⟨rfl, below_alloc (Below.refl _ _) _⟩
set_option maxRecDepth 100000 in
theorem geometry_nil (W : World) : Calls Try.prog 23 #[.pointer none] W fun e w' => e = .returned (.agg #[.int .i64 0, .int .i64 0, .int .i64 0, .int .i64 0]) ∧ Below W.heap.size W w' := by
  have hu28 := Try.underlying28
  go_enter Try.func23, Try.ntmps23
  go_wp2
  refine bodyPost_ret (results_cell_row rfl _ _ W.heap.size 28 #[.int .i64 0, .int .i64 0, .int .i64 0, .int .i64 0] (0, 0) _ rfl (new_blk _ _ _) Try.underlying28 rfl (by kernel_rfl)) rfl ?_
  exact ⟨rfl, below_alloc (Below.refl _ _) _⟩
def b0 : Bk := ⟨false, 0, 0, fun _ => ⟨0, .slice none 0 0⟩⟩
def m0 : Ch := ⟨.slice none 0 0, [], 0, false, 0, 0, fun _ => b0⟩
/-- The row of blocks while its first i pages are laid. -/
def ncell (i : Nat) (gp : Nat → Nat) (k : Nat) : Value :=
  if k % 4 = 0 then .bool false else if k % 4 = 1 then .int .i64 0 else if k % 4 = 2 then (if k / 4 < i then .slice (some ⟨gp (k / 4), 0, none⟩) 16 16 else .slice none 0 0) else .int .i64 0
def cN (i : Nat) (gp : Nat → Nat) : Array Value := Array.ofFn fun k : Fin 64 => ncell i gp k.val
theorem cN_0 (gp : Nat → Nat) : cN 0 gp = madeCells (#[.bool false, .int .i64 0, .slice none 0 0, .int .i64 0]) 64 := by kernel_rfl
theorem cP_0 : cP b0 = madeCells (#[.int .i64 0, .slice none 0 0]) 32 := by kernel_rfl
theorem cN_16 (gp : Nat → Nat) : cN 16 gp = cB gp m0 := by
  unfold cN cB
  congr 1
  funext k
  unfold ncell bcell
  have hk : k.val / 4 < 16 := by have := k.isLt; omega
  rw [if_pos hk]
  rfl
theorem cN_set (i : Nat) (gp : Nat → Nat) (g : Nat) : (cN i gp).setIfInBounds (i * 4 + 2) (.slice (some ⟨g, 0, none⟩) 16 16) = cN (i + 1) (fun x => if x = i then g else gp x) := by
  refine ofFn_set (ncell i gp) _ _ _ ?_ (fun k hk => ?_)
  · unfold ncell
    rw [show (i * 4 + 2) % 4 = 2 by omega, show (i * 4 + 2) / 4 = i by omega]
    simp
  · unfold ncell
    have h4 : k % 4 = 0 ∨ k % 4 = 1 ∨ k % 4 = 2 ∨ k % 4 = 3 := by omega
    rcases h4 with h4 | h4 | h4 | h4
    · simp [h4]
    · simp [h4]
    · have hne : k / 4 ≠ i := fun h => hk (by omega)
      simp only [h4, hne]
      by_cases hlt : k / 4 < i
      · simp [hlt, show k / 4 < i + 1 by omega]
      · simp [hlt, show ¬ k / 4 < i + 1 by omega]
    · simp [h4]
theorem cN_get (i : Nat) (gp : Nat → Nat) (k : Nat) (h : k < 64) : (cN i gp)[k]? = some (ncell i gp k) := by
  unfold cN
  rw [Array.getElem?_ofFn, dif_pos h]
set_option maxRecDepth 100000 in
set_option maxHeartbeats 8000000 in
theorem new_small (w : World) : Calls Try.prog 6 #[gSmall, .slice none 0 0] w fun e w' => ∃ (gc gb : Nat) (gp : Nat → Nat), e = .returned (.tuple #[cp gc, .int .i64 0]) ∧ St w w' gc gb gp m0 (fun _ _ => []) := by
  have hmk : ∀ w, (Instr.makeSlice 53 (.int .i64 16) (.int .i64 16)).run Try.prog w = .ok (.slice (some ⟨w.heap.size, 0, none⟩) 16 16) (w.alloc (.cells (madeCells (#[.bool false, .int .i64 0, .slice none 0 0, .int .i64 0]) 64) 60)) := fun _ => by kernel_rfl
  have hmk2 : ∀ w, (Instr.makeSlice 56 (.int .i64 16) (.int .i64 16)).run Try.prog w = .ok (.slice (some ⟨w.heap.size, 0, none⟩) 16 16) (w.alloc (.cells (madeCells (#[.int .i64 0, .slice none 0 0]) 32) 65)) := fun _ => by kernel_rfl
  rw [← cN_0 (fun _ => 0)] at hmk
  rw [← cP_0] at hmk2
  have HMK := Aside0.mk hmk
  have HMK2 := Aside0.mk hmk2
  have hu28 := Try.underlying28
  have hu55 := Try.underlying55
  have hu60 := Try.underlying60
  clear hmk hmk2
  go_enter Try.func6, Try.ntmps6
  go_upto_region 1 with (fail)
  generalize hW : w.alloc (.cells #[.int .i64 16, .int .i64 16, .int .i64 128, .int .i64 2] 28) = W1
  have hb : Below w.heap.size w W1 := by rw [← hW]; exact below_alloc (Below.refl _ _) _
  have hg : W1.heap[w.heap.size]? = some (.cells #[.int .i64 16, .int .i64 16, .int .i64 128, .int .i64 2] 28 (0, 0)) := by rw [← hW]; exact new_blk _ _ _
  have HB := Aside0.mk hb
  have HG := Aside0.mk hg
  have a0 := Joins.cell_of_block hg 0
  have a1 := Joins.cell_of_block hg 1
  have a2 := Joins.cell_of_block hg 2
  have a3 := Joins.cell_of_block hg 3
  clear hW hb hg
  go_upto_region 3 with (first
    | (go_at_call 24; (with_reducible refine (right_small _).mono ?_); rintro e w2 ⟨rfl, hb2⟩; have HB2 := Aside0.mk hb2; clear hb2)
    | (go_at_call 25; (with_reducible refine (rightPlan_nil _).mono ?_); rintro e w3 ⟨rfl, hb3⟩; have HB3 := Aside0.mk (below_step HB2.out hb3); clear hb3))
  have HBw := Aside0.mk (below_step HB.out HB3.out)
  have HG3 := Aside0.mk (keep_below HG.out HB3.out)
  clear a0 a1 a2 a3
  refine Rel.tail (m := 7) [(0, 16, .inl ?r1v0), (1, 17, .inl ?r1v1), (2, 18, .inl ?r1v2), (3, 19, .inl ?r1v3), (4, 20, .inl ?r1v4), (5, 21, .inr (fun v w' => ∃ g, v = .slice (some ⟨g, 0, none⟩) 16 16 ∧ w'.heap[g]? = some (.cells (cN 0 (fun _ => 0)) 60 (0, 0)) ∧ w3.heap.size ≤ g)), (6, 22, .inr (fun v w' => ∃ g, v = .agg #[.int .i64 16, .int .i64 16, .int .i64 128, .int .i64 2, .slice (some ⟨g, 0, none⟩) 16 16, .slice none 0 0, .int .i64 0, .bool false, .int .i64 0, .int .i64 0] ∧ w'.heap[g]? = some (.cells (cN 0 (fun _ => 0)) 60 (0, 0)) ∧ w3.heap.size ≤ g))] (fun w' => Below w3.heap.size w3 w') (fun w' w'' => Below w'.heap.size w' w'') (by rfl) rfl (by kernel_rfl) (by kernel_rfl) (by kernel_rfl) ?r1S (Rel.stable_inl (Rel.stable_inl (Rel.stable_inl (Rel.stable_inl (Rel.stable_inl (Rel.stable_inr (fun v w w' hb ⟨g, h1, h2, h3⟩ => ⟨g, h1, keep_below h2 hb, h3⟩) (Rel.stable_inr (fun v w w' hb ⟨g, h1, h2, h3⟩ => ⟨g, h1, keep_below h2 hb, h3⟩) Rel.stable_nil))))))) ?r1steps ?r1okv ?r1hlt ?r1fin
  case r1S => exact below_drew (Below.refl _ _)
  case r1steps =>
    refine Rel.from_some 0 rfl rfl (fun a wq hS hK K hC => ?_) ?_
    · refine Reg.step_on (by rfl) ?_
      have e2 := hK.off 2 _ rfl rfl
      have hx := keep_below HG3.out hS
      have f0 := Joins.cell_of_block hx 0
      have f1 := Joins.cell_of_block hx 1
      have f2 := Joins.cell_of_block hx 2
      have f3 := Joins.cell_of_block hx 3
      clear hx
      clear hK
      go_simp
      exact hC _ hS (Below.refl _ _)
    refine Rel.from_some 1 rfl rfl (fun a wq hS hK K hC => ?_) ?_
    · refine Reg.step_on (by rfl) ?_
      have e1 := hK.off 1 _ rfl rfl
      clear hK
      go_simp
      exact hC _ hS (Below.refl _ _)
    refine Rel.from_some 2 rfl rfl (fun a wq hS hK K hC => ?_) ?_
    · refine Reg.step_on (by rfl) ?_
      have e17 := hK.slot 1 _ _ _ rfl (by kernel_rfl)
      clear hK
      go_simp
      go_at_call 26; (with_reducible refine (clone44_nil _).mono ?_)
      rintro e w' ⟨rfl, hb⟩
      exact hC w' (below_step hS hb) hb
    refine Rel.from_some 3 rfl rfl (fun a wq hS hK K hC => ?_) ?_
    · refine Reg.step_on (by rfl) ?_
      have e2 := hK.off 2 _ rfl rfl
      clear hK
      go_simp
      exact hC _ hS (Below.refl _ _)
    refine Rel.from_some 4 rfl rfl (fun a wq hS hK K hC => ?_) ?_
    · refine Reg.step_on (by rfl) ?_
      have e19 := hK.slot 3 _ _ _ rfl (by kernel_rfl)
      have hx := keep_below HG3.out hS
      have f0 := Joins.cell_of_block hx 0
      have f1 := Joins.cell_of_block hx 1
      have f2 := Joins.cell_of_block hx 2
      have f3 := Joins.cell_of_block hx 3
      clear hx
      clear hK
      go_simp
      exact hC _ hS (Below.refl _ _)
    refine Rel.from_rel 5 rfl rfl (fun a wq hS hK K hC => ?_) ?_
    · refine Reg.step_on (by rfl) ?_
      have e20 := hK.slot 4 _ _ _ rfl (by kernel_rfl)
      have hm := HMK.out wq
      clear hK
      go_simp
      exact hC _ _ (below_alloc hS _) (below_alloc (Below.refl _ _) _) ⟨_, rfl, new_blk _ _ _, below_size hS⟩
    refine Rel.from_rel 6 rfl rfl (fun a wq hS hK K hC => ?_) ?_
    · refine Reg.step_on (by rfl) ?_
      have e16 := hK.slot 0 _ _ _ rfl (by kernel_rfl)
      have e18 := hK.slot 2 _ _ _ rfl (by kernel_rfl)
      obtain ⟨u21, e21, q21⟩ := hK.rel 5 _ _ _ rfl (by kernel_rfl)
      obtain ⟨g, rfl, hg1, hg2⟩ := q21
      clear hK
      go_simp
      exact hC _ _ hS (Below.refl _ _) ⟨g, rfl, hg1, hg2⟩
    exact Rel.from_nil
  case r1okv => rfl
  case r1hlt => rfl
  case r1fin =>
    intro U wz hS hU
    have q5 := hU 5 _ _ _ rfl
    have q6 := hU 6 _ _ _ rfl
    clear hU
    simp only [Rel.inst, Nat.zero_add, Nat.reduceAdd, Reg.putV, List.foldl_cons, List.foldl_nil, Act.put, List.setIfInBounds_toArray, List.set_cons_zero, List.set_cons_succ]
    obtain ⟨gb, eb, hgb, hgl⟩ := q6
    rw [eb]
    have HSB := Aside0.mk hS
    have HGB := Aside0.mk hgb
    have HGL := Aside0.mk hgl
    clear hS hgb hgl eb q5
    refine Rel.tail_cons (fun K hK => ?_)
    refine Reg.step_on (by rfl) ?_
    go_simp
    refine hK _ _ ?_
    clear hK
    refine Rel.tail_cons (fun K hK => ?_)
    refine Reg.step_on (by rfl) ?_
    go_simp
    refine hK _ _ ?_
    clear hK
    refine Rel.tail_nil ?_
    generalize hW : wz.alloc (.cells #[.int .i64 16, .int .i64 16, .int .i64 128, .int .i64 2, .slice (some ⟨gb, 0, none⟩) 16 16, .slice none 0 0, .int .i64 0, .bool false, .int .i64 0, .int .i64 0] 55) = W4
    have hb4 : Below wz.heap.size wz W4 := by rw [← hW]; exact below_alloc (Below.refl _ _) _
    have hc4 : W4.heap[wz.heap.size]? = some (.cells (cC gb m0) 55 (0, 0)) := by rw [← hW]; exact new_blk _ _ _
    obtain ⟨gc, hgc⟩ : ∃ g, g = wz.heap.size := ⟨_, rfl⟩
    rw [← hgc] at hc4 ⊢
    have HC4 := Aside0.mk hc4
    have HB4 := Aside0.mk (below_step HBw.out (below_step HSB.out hb4))
    have HGB4 := Aside0.mk (keep_below HGB.out hb4)
    have HG4 := Aside0.mk (keep_below HG3.out (below_step HSB.out hb4))
    have HGL4 := Aside0.mk (Nat.le_trans (below_size HBw.out) HGL.out)
    have HGC4 := Aside0.mk (show w.heap.size ≤ gc by rw [hgc]; exact below_size (below_step HBw.out HSB.out))
    have c4 := Joins.cell_of_block hc4 4
    clear hW hb4 hc4 hgc
    change W4.cell? ⟨gc, 4, none⟩ = some (.slice (some ⟨gb, 0, none⟩) 16 16) at c4
    go_wp2
    go_loopw [29] (fun v29 wr => ∃ (i : Nat) (gp : Nat → Nat), i ≤ 16 ∧ v29 = .int .i64 i ∧ Aside0 (wr.heap[gc]? = some (.cells (cC gb m0) 55 (0, 0))) ∧ Aside0 (wr.heap[gb]? = some (.cells (cN i gp) 60 (0, 0))) ∧ Aside0 (∀ x, x < i → wr.heap[gp x]? = some (.cells (cP b0) 65 (0, 0))) ∧ Aside0 (∀ x y, x < i → y < i → gp x = gp y → x = y) ∧ Aside0 (∀ x, x < i → w.heap.size ≤ gp x) ∧ Aside0 (wr.heap[w.heap.size]? = some (.cells #[.int .i64 16, .int .i64 16, .int .i64 128, .int .i64 2] 28 (0, 0))) ∧ Aside0 (Below w.heap.size w wr)) (fun i _ => 16 - (intOf i).toNat)
    case atStart => exact ⟨0, fun _ => 0, Nat.zero_le _, rfl, HC4, HGB4, ⟨fun x h => absurd h (Nat.not_lt_zero _)⟩, ⟨fun x y h => absurd h (Nat.not_lt_zero _)⟩, ⟨fun x h => absurd h (Nat.not_lt_zero _)⟩, HG4, HB4⟩
    case round =>
      obtain ⟨i, gp, hi, rfl, HC5, HN5, HP5, HI5, HE5, HG5, HB5⟩ := hrel
      clear c4
      by_cases hlt : i < 16
      · have d0 : decide ((i : Int) < 16) = true := decide_eq_true (by omega)
        have hq : (i < 16) = True := eq_true hlt
        have hqi : ((i : Int) < 16) = True := eq_true (by omega)
        go_upto_region 7 with (fail)
        refine Rel.tail (m := 10) [(0, 32, .inl ?r2v0), (1, 33, .inl ?r2v1), (2, 34, .inl ?r2v2), (3, 35, .inl ?r2v3), (4, 36, .inl ?r2v4), (5, 37, .inl ?r2v5), (6, 38, .inl ?r2v6), (7, 39, .inr (fun v w' => ∃ g, v = .slice (some ⟨g, 0, none⟩) 16 16 ∧ w'.heap[g]? = some (.cells (cP b0) 65 (0, 0)) ∧ wr.heap.size ≤ g)), (8, 40, .inl ?r2v8), (9, 41, .inl ?r2v9)] (fun w' => Below wr.heap.size wr w') (fun w' w'' => Below w'.heap.size w' w'') (by rfl) rfl (by kernel_rfl) (by kernel_rfl) (by kernel_rfl) ?r2S (Rel.stable_inl (Rel.stable_inl (Rel.stable_inl (Rel.stable_inl (Rel.stable_inl (Rel.stable_inl (Rel.stable_inl (Rel.stable_inr (fun v w w' hb ⟨g, h1, h2, h3⟩ => ⟨g, h1, keep_below h2 hb, h3⟩) (Rel.stable_inl (Rel.stable_inl Rel.stable_nil)))))))))) ?r2steps ?r2okv ?r2hlt ?r2fin
        case r2S => exact below_drew (Below.refl _ _)
        case r2steps =>
          refine Rel.from_some 0 rfl rfl (fun a wq hS hK K hC => ?_) ?_
          · refine Reg.step_on (by rfl) ?_
            have e6 := hK.off 6 _ rfl rfl
            clear hK
            go_simp
            exact hC _ hS (Below.refl _ _)
          refine Rel.from_some 1 rfl rfl (fun a wq hS hK K hC => ?_) ?_
          · refine Reg.step_on (by rfl) ?_
            have e32 := hK.slot 0 _ _ _ rfl (by kernel_rfl)
            clear hK
            go_simp
            exact hC _ hS (Below.refl _ _)
          refine Rel.from_some 2 rfl rfl (fun a wq hS hK K hC => ?_) ?_
          · refine Reg.step_on (by rfl) ?_
            have e33 := hK.slot 1 _ _ _ rfl (by kernel_rfl)
            clear hK
            go_simp
            exact hC _ hS (Below.refl _ _)
          refine Rel.from_some 3 rfl rfl (fun a wq hS hK K hC => ?_) ?_
          · refine Reg.step_on (by rfl) ?_
            have e34 := hK.slot 2 _ _ _ rfl (by kernel_rfl)
            have hx := keep_below HG5.out hS
            have f1 := Joins.cell_of_block hx 1
            have k4 := Joins.cell_of_block (keep_below HC5.out hS) 4
            change _ = some (Value.slice (some ⟨gb, 0, none⟩) 16 16) at k4
            clear hx
            clear hK
            go_simp
            exact hC _ hS (Below.refl _ _)
          refine Rel.from_some 4 rfl rfl (fun a wq hS hK K hC => ?_) ?_
          · refine Reg.step_on (by rfl) ?_
            have e7 := hK.off 7 _ rfl rfl
            clear hK
            go_simp
            exact hC _ hS (Below.refl _ _)
          refine Rel.from_some 5 rfl rfl (fun a wq hS hK K hC => ?_) ?_
          · refine Reg.step_on (by rfl) ?_
            have e2 := hK.off 2 _ rfl rfl
            clear hK
            go_simp
            exact hC _ hS (Below.refl _ _)
          refine Rel.from_some 6 rfl rfl (fun a wq hS hK K hC => ?_) ?_
          · refine Reg.step_on (by rfl) ?_
            have e37 := hK.slot 5 _ _ _ rfl (by kernel_rfl)
            have hx := keep_below HG5.out hS
            have f1 := Joins.cell_of_block hx 1
            have k4 := Joins.cell_of_block (keep_below HC5.out hS) 4
            change _ = some (Value.slice (some ⟨gb, 0, none⟩) 16 16) at k4
            clear hx
            clear hK
            go_simp
            exact hC _ hS (Below.refl _ _)
          refine Rel.from_rel 7 rfl rfl (fun a wq hS hK K hC => ?_) ?_
          · refine Reg.step_on (by rfl) ?_
            have e38 := hK.slot 6 _ _ _ rfl (by kernel_rfl)
            have hm := HMK2.out wq
            clear hK
            go_simp
            exact hC _ _ (below_alloc hS _) (below_alloc (Below.refl _ _) _) ⟨_, rfl, new_blk _ _ _, below_size hS⟩
          refine Rel.from_some 8 rfl rfl (fun a wq hS hK K hC => ?_) ?_
          · refine Reg.step_on (by rfl) ?_
            have e35 := hK.slot 3 _ _ _ rfl (by kernel_rfl)
            have e36 := hK.slot 4 _ _ _ rfl (by kernel_rfl)
            clear hK
            go_simp
            exact hC _ hS (Below.refl _ _)
          refine Rel.from_some 9 rfl rfl (fun a wq hS hK K hC => ?_) ?_
          · refine Reg.step_on (by rfl) ?_
            have e40 := hK.slot 8 _ _ _ rfl (by kernel_rfl)
            clear hK
            go_simp
            exact hC _ hS (Below.refl _ _)
          exact Rel.from_nil
        case r2okv => rfl
        case r2hlt => rfl
        case r2fin =>
          intro U wz hS hU
          have q7 := hU 7 _ _ _ rfl
          clear hU
          simp only [Rel.inst, Nat.zero_add, Nat.reduceAdd, Reg.putV, List.foldl_cons, List.foldl_nil, Act.put, List.setIfInBounds_toArray, List.set_cons_zero, List.set_cons_succ]
          obtain ⟨g, eg, hg, hgl⟩ := q7
          rw [eg]
          have hN := keep_below HN5.out hS
          have zb := blk_cell hN (i * 4 + 2)
          rw [cN_get _ _ _ (by omega), show ncell i gp (i * 4 + 2) = .slice none 0 0 by unfold ncell; rw [if_neg (by omega), if_neg (by omega), if_pos (by omega), if_neg (by omega)]] at zb
          have zf := blk_frozen hN (i * 4 + 2)
          have HNz := Aside0.mk hN
          have HCz := Aside0.mk (keep_below HC5.out hS)
          have HGz := Aside0.mk hg
          have HLz := Aside0.mk hgl
          have HSz := Aside0.mk hS
          clear hS hg hgl hN eg
          refine Rel.tail_cons (fun K hK => ?_)
          refine Reg.step_on (by rfl) ?_
          go_simp
          refine hK _ _ ?_
          clear hK zb zf
          refine Rel.tail_nil ?_
          generalize hW : wz.setCell ⟨gb, i * 4 + 2, none⟩ (.slice (some ⟨g, 0, none⟩) 16 16) = W6
          have h1 : W6.heap[gb]? = some (.cells (cN (i + 1) (fun x => if x = i then g else gp x)) 60 (0, 0)) := by rw [← hW, ← cN_set]; exact blk_set HNz.out _ _
          have h2 : W6.heap[gc]? = some (.cells (cC gb m0) 55 (0, 0)) := by rw [← hW]; exact blk_far HCz.out (ne_of_type HCz.out HNz.out (by decide)) _
          have h3 : ∀ x, x < i + 1 → W6.heap[(fun x => if x = i then g else gp x) x]? = some (.cells (cP b0) 65 (0, 0)) := fun x hx => by
            rw [← hW]
            by_cases hxi : x = i
            · subst hxi
              simp only [if_true]
              exact blk_far HGz.out (ne_of_type HGz.out HNz.out (by decide)) _
            · simp only [hxi, if_false]
              have hp := keep_below (HP5.out x (by omega)) HSz.out
              exact blk_far hp (ne_of_type hp HNz.out (by decide)) _
          have h4 : ∀ x y, x < i + 1 → y < i + 1 → (fun x => if x = i then g else gp x) x = (fun x => if x = i then g else gp x) y → x = y := fun x y hx hy e => by
            have hlt2 : ∀ z, z < i → gp z < g := fun z hz => Nat.lt_of_lt_of_le (blk_lt (HP5.out z hz)) HLz.out
            by_cases hxi : x = i
            · by_cases hyi : y = i
              · omega
              · simp only [hxi, hyi, if_true, if_false] at e
                have := hlt2 y (by omega)
                omega
            · by_cases hyi : y = i
              · simp only [hxi, hyi, if_true, if_false] at e
                have := hlt2 x (by omega)
                omega
              · simp only [hxi, hyi, if_false] at e
                exact HI5.out x y (by omega) (by omega) e
          have h5 : ∀ x, x < i + 1 → w.heap.size ≤ (fun x => if x = i then g else gp x) x := fun x hx => by
            by_cases hxi : x = i
            · simp only [hxi, if_true]; exact Nat.le_trans (below_size HB5.out) HLz.out
            · simp only [hxi, if_false]; exact HE5.out x (by omega)
          have h6 : W6.heap[w.heap.size]? = some (.cells #[.int .i64 16, .int .i64 16, .int .i64 128, .int .i64 2] 28 (0, 0)) := by rw [← hW]; exact blk_far (keep_below HG5.out HSz.out) (ne_of_type (keep_below HG5.out HSz.out) HNz.out (by decide)) _
          have h7 : Below w.heap.size w W6 := by rw [← hW]; exact below_set (below_step HB5.out HSz.out) HGL4.out
          have H1 := Aside0.mk h1
          have H2 := Aside0.mk h2
          have H3 := Aside0.mk h3
          have H4 := Aside0.mk h4
          have H5 := Aside0.mk h5
          have H6 := Aside0.mk h6
          have H7 := Aside0.mk h7
          clear hW h1 h2 h3 h4 h5 h6 h7
          go_wp2
          go_roundw
          case rel => exact ⟨i + 1, _, by omega, by push_cast; rfl, H2, H1, H3, H4, H5, H6, H7⟩
          case measure => simp [intOf]; omega
      · obtain rfl : i = 16 := by omega
        go_wp2
        go_ret2
        exact ⟨gc, gb, gp, rfl, ⟨HC5.out, by rw [← cN_16]; exact HN5.out, fun x hx => HP5.out x hx, fun x y hx hy e => HI5.out x y hx hy e, HGC4.out, HGL4.out, fun x hx => HE5.out x hx, fun x y _ _ => Kd.R_nil _ _ _ _ _, Kd.R_nil _ _ _ _ _, HB5.out⟩⟩
end Go.Proofs.Ytnhlfbkpohidpaa.PAll
