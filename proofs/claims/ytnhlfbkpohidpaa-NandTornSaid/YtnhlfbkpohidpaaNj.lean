import Derived.Test.YtnhlfbkpohidpaaNi
namespace Go.Proofs.Ytnhlfbkpohidpaa.PAll
open Go.RowKit Go.Proofs.YtnhlfbkpohidpaaW.PrintWords Go.Proofs.YtnhlfbkpohidpaaW.PrintLast Go.Proofs.YtnhlfbkpohidpaaW.PrintMore
set_option linter.unusedSimpArgs false
set_option linter.unusedVariables false
attribute [local go_sem] max2_int min2_int max_two min_two max_three min_three max_four min_four
variable {w0 W : World} {gc gb : Nat} {gp : Nat → Nat} {m : Ch} {D : Nat → Nat → List Int}
/-! ### an operation that meets its fault -/
set_option maxRecDepth 100000 in
set_option maxHeartbeats 4000000 in
theorem begin_hit (h : St w0 W gc gb gp m D) (f : S44) (hp : m.pl = [f]) (he : f.f0 = wrap64 (wrap64 (m.ops + 1) - m.frm)) :
    Calls Try.prog 29 #[cp gc] W fun e w' => e = .returned (.tuple #[.agg #[.int .i64 f.f0, .int .i64 f.f1, .int .i64 f.f2], .bool true]) ∧ St w0 w' gc gb gp { m with ops := wrap64 (m.ops + 1) } D ∧ Keeps W w' := by
  have c8 : ∀ o, (W.alloc o).cell? ⟨gc, 8, none⟩ = some (.int .i64 m.ops) := fun o => (h.grow (below_alloc (Below.refl _ _) o)).cellC 8
  have f8 : ∀ o, (W.alloc o).frozen? ⟨gc, 8, none⟩ = false := fun o => blk_frozen (h.grow (below_alloc (Below.refl _ _) o)).c 8
  have H := Aside0.mk h
  have HP := Aside0.mk hp
  have HE := Aside0.mk he
  have hu44 := Try.underlying44
  obtain ⟨A5, c5, e5⟩ := Kd.R_slice h.pln
  have hform : 0 < m.pl.length → ∃ g5, A5 = some ⟨g5, 0, none⟩ := fun hpos => by
    obtain ⟨g5, c, e, _⟩ := Kd.R_form h.pln hpos
    rw [e5] at e
    simp only [Value.slice.injEq] at e
    exact ⟨g5, e.1⟩
  obtain ⟨g5, rfl⟩ := hform (by rw [hp]; simp)
  have HPV := Aside0.mk e5
  have hpb : Kd.R k44 44 W w0.heap.size (fun k => k < W.heap.size) m.plan m.pl := Kd.R_mono (Kd.R_bound h.pln) (fun k hk => hk.2.2.1)
  have HPB0 := Aside0.mk hpb
  have hmx : m.pl.length ≤ 9223372036854775807 := by
    have h7 := h.pln
    rw [e5] at h7
    exact Kd.C_max (Kd.R_reads' h7).2.2
  clear h hp he e5 hpb
  go_enter Try.func29, Try.ntmps29
  go_upto_region 2 with (fail)
  generalize hW : (W.alloc (.cells #[.int .i64 0, .int .i64 0, .int .i64 0] 44)).setCell ⟨gc, 8, none⟩ (.int .i64 (wrap64 (m.ops + 1))) = W1
  have h1 : St w0 W1 gc gb gp { m with ops := wrap64 (m.ops + 1) } D := by rw [← hW]; exact (H.out.grow (below_alloc (Below.refl _ _) _)).ops _
  have hk : Keeps W W1 := by rw [← hW]; exact (Keeps.of_below (below_alloc (Below.refl _ _) _)).set (H.out.grow (below_alloc (Below.refl _ _) _)).c (by decide) _ _
  have hx : W1.heap[W.heap.size]? = some (.cells #[.int .i64 0, .int .i64 0, .int .i64 0] 44 (0, 0)) := by rw [← hW]; exact blk_far (new_blk _ _ _) (ne_of_type (new_blk W #[.int .i64 0, .int .i64 0, .int .i64 0] 44) (H.out.grow (below_alloc (Below.refl _ _) (.cells #[.int .i64 0, .int .i64 0, .int .i64 0] 44))).c (by decide)) _
  have hpb1 : Kd.R k44 44 W1 w0.heap.size (fun k => k < W.heap.size) m.plan m.pl := by rw [← hW]; exact Kd.R_set (Kd.R_below HPB0.out (below_alloc (Below.refl _ _) _)) (H.out.grow (below_alloc (Below.refl _ _) _)).c (by decide) _ _
  have cc5 : W1.cell? ⟨gc, 5, none⟩ = some (.slice (some ⟨g5, 0, none⟩) 1 c5) := by rw [h1.cellC 5]; simp [cC, HPV.out, HP.out]
  have x0 := Joins.cell_of_block hx 0
  have x1 := Joins.cell_of_block hx 1
  have x2 := Joins.cell_of_block hx 2
  have fx0 := blk_frozen hx 0
  have fx1 := blk_frozen hx 1
  have fx2 := blk_frozen hx 2
  have H1 := Aside0.mk h1
  have HK := Aside0.mk hk
  have HX := Aside0.mk hx
  have HPB := Aside0.mk hpb1
  clear hW h1 hk hx c8 f8 hpb1
  go_upto_region 3 with (fail)
  have hr6 := H1.out.pln
  rw [show ({ m with ops := wrap64 (m.ops + 1) } : Ch).plan = m.plan from rfl, show ({ m with ops := wrap64 (m.ops + 1) } : Ch).pl = m.pl from rfl, HPV.out] at hr6
  obtain ⟨ad, ead, y0, y1, y2⟩ := at_T44 (Kd.R_reads' hr6).2.2 0 (by omega) (by rw [HP.out]; simp)
  obtain rfl : (⟨g5, 0, none⟩ : Addr) = ad := by simpa using ead
  rw [add0, show rd_T44 m.pl 0 = f by rw [HP.out]; rfl] at y0 y1 y2
  simp only [show Int.toNat 0 = 0 from rfl, Nat.zero_mul, Nat.zero_add] at y0 y1 y2
  have e1 : (f.f0 == IntKind.i64.wrap (wrap64 (m.ops + 1) - m.frm)) = true := by rw [i64_w, ← HE.out]; simp
  have HQ9 := Aside0.mk (fun o => below_alloc (Below.refl W1.heap.size W1) o)
  clear ead hr6 hmx x0 x1 x2 fx0 fx1 fx2
  refine wp_loop_rounds 1 ?_
  rw [rounds_succ]
  go_upto_region 5 with (fail)
  generalize hW6 : W1.alloc (.cells #[.int .i64 f.f0, .int .i64 f.f1, .int .i64 f.f2] 44) = W6
  have HF6 := Aside0.mk (show W6.heap[W1.heap.size]? = some (.cells #[.int .i64 f.f0, .int .i64 f.f1, .int .i64 f.f2] 44 (0, 0)) by rw [← hW6]; exact new_blk _ _ _)
  have HB6 := Aside0.mk (show Below W1.heap.size W1 W6 by rw [← hW6]; exact HQ9.out _)
  have H6 := Aside0.mk (H1.out.grow HB6.out)
  clear hW6 y0 y1 y2
  refine Reg.det [(0, 22, ?r1v0), (1, 23, ?r1v1), (2, 24, ?r1v2), (3, 25, ?r1v3), (4, 26, ?r1v4), (5, 27, ?r1v5), (6, 28, ?r1v6), (7, 29, ?r1v7), (8, 30, ?r1v8), (9, 31, ?r1v9), (10, 32, ?r1v10), (11, 33, ?r1v11)] (fun w' => Below W6.heap.size W6 w') (by rfl) rfl (by kernel_rfl) ?r1S ?r1steps ?r1okv ?r1hlt ?r1fin
  case r1S => exact below_drew (Below.refl _ _)
  case r1steps =>
    refine Reg.from_some 0 rfl rfl (fun a w hS hK K hC => ?_) ?_
    · refine Reg.step_on (by rfl) ?_
      have e5 := hK.off 5 _ rfl rfl
      clear hK
      go_simp
      exact hC _ hS
    refine Reg.from_some 1 rfl rfl (fun a w hS hK K hC => ?_) ?_
    · refine Reg.step_on (by rfl) ?_
      have e22 := hK.slot 0 _ _ _ rfl (by kernel_rfl)
      have k8 := (H6.out.grow hS).cellC 8
      change _ = some (Value.int .i64 (wrap64 (m.ops + 1))) at k8
      have k6 := (H6.out.grow hS).cellC 6
      change _ = some (Value.int .i64 m.frm) at k6
      have kf := Joins.cell_of_block (keep_below HF6.out hS) 0
      clear hK
      go_simp
      exact hC _ hS
    refine Reg.from_some 2 rfl rfl (fun a w hS hK K hC => ?_) ?_
    · refine Reg.step_on (by rfl) ?_
      have e0 := hK.off 0 _ rfl rfl
      clear hK
      go_simp
      exact hC _ hS
    refine Reg.from_some 3 rfl rfl (fun a w hS hK K hC => ?_) ?_
    · refine Reg.step_on (by rfl) ?_
      have e24 := hK.slot 2 _ _ _ rfl (by kernel_rfl)
      clear hK
      go_simp
      exact hC _ hS
    refine Reg.from_some 4 rfl rfl (fun a w hS hK K hC => ?_) ?_
    · refine Reg.step_on (by rfl) ?_
      have e25 := hK.slot 3 _ _ _ rfl (by kernel_rfl)
      clear hK
      go_simp
      exact hC _ hS
    refine Reg.from_some 5 rfl rfl (fun a w hS hK K hC => ?_) ?_
    · refine Reg.step_on (by rfl) ?_
      have e26 := hK.slot 4 _ _ _ rfl (by kernel_rfl)
      have k8 := (H6.out.grow hS).cellC 8
      change _ = some (Value.int .i64 (wrap64 (m.ops + 1))) at k8
      have k6 := (H6.out.grow hS).cellC 6
      change _ = some (Value.int .i64 m.frm) at k6
      have kf := Joins.cell_of_block (keep_below HF6.out hS) 0
      clear hK
      go_simp
      exact hC _ hS
    refine Reg.from_some 6 rfl rfl (fun a w hS hK K hC => ?_) ?_
    · refine Reg.step_on (by rfl) ?_
      have e0 := hK.off 0 _ rfl rfl
      clear hK
      go_simp
      exact hC _ hS
    refine Reg.from_some 7 rfl rfl (fun a w hS hK K hC => ?_) ?_
    · refine Reg.step_on (by rfl) ?_
      have e28 := hK.slot 6 _ _ _ rfl (by kernel_rfl)
      clear hK
      go_simp
      exact hC _ hS
    refine Reg.from_some 8 rfl rfl (fun a w hS hK K hC => ?_) ?_
    · refine Reg.step_on (by rfl) ?_
      have e29 := hK.slot 7 _ _ _ rfl (by kernel_rfl)
      clear hK
      go_simp
      exact hC _ hS
    refine Reg.from_some 9 rfl rfl (fun a w hS hK K hC => ?_) ?_
    · refine Reg.step_on (by rfl) ?_
      have e30 := hK.slot 8 _ _ _ rfl (by kernel_rfl)
      have k8 := (H6.out.grow hS).cellC 8
      change _ = some (Value.int .i64 (wrap64 (m.ops + 1))) at k8
      have k6 := (H6.out.grow hS).cellC 6
      change _ = some (Value.int .i64 m.frm) at k6
      have kf := Joins.cell_of_block (keep_below HF6.out hS) 0
      clear hK
      go_simp
      exact hC _ hS
    refine Reg.from_some 10 rfl rfl (fun a w hS hK K hC => ?_) ?_
    · refine Reg.step_on (by rfl) ?_
      have e27 := hK.slot 5 _ _ _ rfl (by kernel_rfl)
      have e31 := hK.slot 9 _ _ _ rfl (by kernel_rfl)
      clear hK
      go_simp
      exact hC _ hS
    refine Reg.from_some 11 rfl rfl (fun a w hS hK K hC => ?_) ?_
    · refine Reg.step_on (by rfl) ?_
      have e23 := hK.slot 1 _ _ _ rfl (by kernel_rfl)
      have e32 := hK.slot 10 _ _ _ rfl (by kernel_rfl)
      clear hK
      go_simp
      exact hC _ hS
    exact Reg.from_nil
  case r1okv => rfl
  case r1hlt => rfl
  case r1fin =>
    intro wz hS
    simp only [Reg.putV, List.foldl_cons, List.foldl_nil, Act.put, List.setIfInBounds_toArray, List.set_cons_zero, List.set_cons_succ]
    have HBz := Aside0.mk (below_step HB6.out hS)
    have HXr := Aside0.mk (keep_below HX.out HBz.out)
    have HFz := Aside0.mk (keep_below HF6.out hS)
    have x0 := Joins.cell_of_block HXr.out 0
    have x1 := Joins.cell_of_block HXr.out 1
    have x2 := Joins.cell_of_block HXr.out 2
    have fx0 := blk_frozen HXr.out 0
    have fx1 := blk_frozen HXr.out 1
    have fx2 := blk_frozen HXr.out 2
    have k0 := Joins.cell_of_block HFz.out 0
    have k1 := Joins.cell_of_block HFz.out 1
    have k2 := Joins.cell_of_block HFz.out 2
    clear hS
    go_wp2
    refine bodyPost_ret (results_ct rfl _ _ W.heap.size 44 #[.int .i64 f.f0, .int .i64 f.f1, .int .i64 f.f2] (0, 0) _ rfl (set44 HXr.out _ _ _) Try.underlying44 rfl (by kernel_rfl)) rfl ?_
    exact ⟨rfl, (H1.out.grow HBz.out).other3 HXr.out (below_size H.out.below) (fun k hk => Nat.ne_of_lt hk) (Kd.R_below HPB.out HBz.out) _ _ _, (HK.out.trans (Keeps.of_below HBz.out)).set3 HXr.out _ _ _⟩
end Go.Proofs.Ytnhlfbkpohidpaa.PAll
