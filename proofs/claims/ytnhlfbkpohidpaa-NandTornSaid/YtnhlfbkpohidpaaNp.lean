import Derived.Test.YtnhlfbkpohidpaaNm
import Derived.Test.YtnhlfbkpohidpaaNk
import Derived.Test.YtnhlfbkpohidpaaNf
import Derived.Test.YtnhlfbkpohidpaaNo
import Derived.Deep.CutBlock
import Derived.Deep.LoopGhost
import Derived.Test.YtnhlfbkpohidpaaRelS
namespace Go.Proofs.Ytnhlfbkpohidpaa.PAll
open Go.RowKit Go.Proofs.YtnhlfbkpohidpaaW.PrintWords Go.Proofs.YtnhlfbkpohidpaaW.PrintLast Go.Proofs.YtnhlfbkpohidpaaW.PrintMore
set_option linter.unusedSimpArgs false
set_option linter.unusedVariables false
attribute [local go_sem] max2_int min2_int max_two min_two max_three min_three max_four min_four
variable {w0 W : World} {gc gb : Nat} {gp : Nat → Nat} {m : Ch} {D : Nat → Nat → List Int}
set_option maxRecDepth 100000 in
theorem indexFunc_nil (A : Option Addr) (c : Nat) (v : Value) (W : World) : Calls Try.prog 38 #[.slice A 0 c, v] W fun e w' => e = .returned (.int .i64 (-1)) ∧ Below W.heap.size W w' := by
  go_enter Try.func38, Try.ntmps38
  go_wp2
  refine wp_loop_rounds 1 ?_
  rw [rounds_succ]
  go_wp2
  go_ret
  exact ⟨rfl, Below.refl _ _⟩
set_option maxRecDepth 100000 in
theorem containsFunc_nil (A : Option Addr) (c : Nat) (v : Value) (W : World) : Calls Try.prog 36 #[.slice A 0 c, v] W fun e w' => e = .returned (.bool false) ∧ Below W.heap.size W w' := by
  go_enter Try.func36, Try.ntmps36
  go_wp2_with (first
    | (go_at_call 38; (with_reducible refine (indexFunc_nil _ _ _ _).mono ?_); rintro e w1 ⟨rfl, hb1⟩; have HB1 := Aside0.mk hb1; clear hb1))
  go_ret
  exact ⟨rfl, HB1.out⟩
set_option maxRecDepth 100000 in
set_option maxHeartbeats 8000000 in
theorem rightPlan_one {g : Nat} {fr : Nat × Nat} (f : S44) (hx : W.heap[g]? = some (.cells #[.int .i64 f.f0, .int .i64 f.f1, .int .i64 f.f2] 44 fr)) (h0 : 1 ≤ f.f0) (h1 : f.f1 = 1) (h2 : 0 ≤ f.f2) (h3 : f.f2 ≤ 2) (c : Nat) (hc : 1 ≤ c) :
    Calls Try.prog 25 #[.slice (some ⟨g, 0, none⟩) 1 c] W fun e w' => e = .returned (.bool true) ∧ Below W.heap.size W w' := by
  have d0 : decide (f.f0 < 1) = false := decide_eq_false (by omega)
  have d2 : decide (0 ≤ f.f2) = true := decide_eq_true h2
  have d3 : decide (f.f2 ≤ 2) = true := decide_eq_true h3
  have x0 := Joins.cell_of_block hx 0
  have x1 := Joins.cell_of_block hx 1
  have x2 := Joins.cell_of_block hx 2
  rw [h1] at x1
  have hu44 := Try.underlying44
  have hlt := blk_lt hx
  have HC := Aside0.mk hc
  clear hx h0 h1 h2 h3 hlt hc
  go_enter Try.func25, Try.ntmps25
  go_wp2
  refine wp_loop_rounds 2 ?_
  rw [rounds_succ]
  go_upto_region 6 with (fail)
  generalize hW : W.alloc (.cells #[.int .i64 f.f0, .int .i64 1, .int .i64 f.f2] 44) = W1
  have hb1 : Below W.heap.size W W1 := by rw [← hW]; exact below_alloc (Below.refl _ _) _
  have hx1 : W1.heap[W.heap.size]? = some (.cells #[.int .i64 f.f0, .int .i64 1, .int .i64 f.f2] 44 (0, 0)) := by rw [← hW]; exact new_blk _ _ _
  have y0 := Joins.cell_of_block hx1 0
  have y1 := Joins.cell_of_block hx1 1
  have y2 := Joins.cell_of_block hx1 2
  have HB1 := Aside0.mk hb1
  clear hW hb1 hx1 x0 x1 x2
  go_wp2_with (first
    | (go_at_call 36; (with_reducible refine (containsFunc_nil _ _ _ _).mono ?_); rintro e w2 ⟨rfl, hb2⟩; have HB2 := Aside0.mk (below_step HB1.out hb2); clear hb2))
  rw [rounds_succ]
  go_wp2
  go_ret
  exact ⟨rfl, HB2.out⟩
theorem info44' : (Try.prog.info? 44).map (fun i => (i.zero, i.size, i.bytes)) = some (some (.agg #[.int .i64 0, .int .i64 0, .int .i64 0]), 3, 24) := by kernel_rfl
set_option maxRecDepth 100000 in
set_option maxHeartbeats 4000000 in
theorem clone44 (ad : Addr) (c : Nat) (l : List S44) (w : World) (hr : Kd.C k44 w (some ad) l.length l) (hc : l.length ≤ c) (hb : l.length ≤ 1000000) :
    Calls Try.prog 26 #[.slice (some ad) l.length c] w fun e w' => ∃ v0_ : Value, e = .returned (v0_) ∧ Kd.R k44 44 w' w.heap.size (fun _ => True) v0_ l ∧ Below w.heap.size w w' := by
  have HR := Aside0.mk hr
  have HC := Aside0.mk hc
  have HBs := Aside0.mk hb
  clear hc hb hr
  have hnil := fun W : World => Lib.run_eql_slice_nil (P := Try.prog) W 32 44 (some ad) l.length c 0 0 Try.underlying32
  go_enter Try.func26, Try.ntmps26
  go_wp2_with (first
    | ((with_reducible refine gate_dst (N := 5) rfl ?_); refine Kd.R_lit k44 w.heap.size 44 ?hg (N := 5) ?hd (xs := ([] : List S44)) (inner := []) (ok := fun _ => True) (okp := fun _ => True) ?hr ?hp (fun _ hk => hk) trivial (Below.refl _ _) (Nat.le_refl _) (by simp) ?_; (case hd => rfl); (case hg => rfl); (case hr => first | (go_simp; done) | (go_simp; rfl)); (case hp => exact (Reps.none _ _)); intro v1 w1 ho hb _ _; have HO := Aside0.mk ho; have HB := Aside0.mk hb; clear ho hb)
    | ((with_reducible refine gate_builtin (b := .append) (xs := #[.tmp 5, .tmp 6]) rfl ?_); at_builtin; refine Kd.R_append_rows k44 (w0 := w) w.heap.size rfl (.tmp 5) (.tmp 6) 32 44 (.agg #[.int .i64 0, .int .i64 0, .int .i64 0]) 24 rfl Try.underlying32 info44' rfl (by decide) (by decide) v1 [] l _ _ _ (fun _ => True) (fun _ => False) rfl rfl ?aO ?aR (fun _ _ h => h) (fun _ h => h.elim) ?aF ?aB ?aS ?aL ?_; (case aO => exact HO.out); (case aR => exact Kd.C_below HR.out HB.out); (case aF => exact fun _ _ => trivial); (case aB => exact HB.out); (case aS => exact below_size HB.out); (case aL => have := HBs.out; simp; omega); intro v2 w2 ho2 hb2 _ _; have HO2 := Aside0.mk ho2; have HB2 := Aside0.mk hb2; clear ho2 hb2))
  go_ret
  exact ⟨_, rfl, HO2.out, HB2.out⟩
theorem C44_one {g : Nat} {fr : Nat × Nat} {f : S44} (hx : W.heap[g]? = some (.cells #[.int .i64 f.f0, .int .i64 f.f1, .int .i64 f.f2] 44 fr)) : Kd.C k44 W (some ⟨g, 0, none⟩) [f].length [f] := by
  refine ⟨rfl, by simp, fun _ => ⟨_, rfl, fun j p hj => ?_⟩⟩
  cases j with
  | succ j => simp at hj
  | zero =>
    simp only [List.getElem?_cons_zero, Option.some.injEq] at hj
    subst hj
    refine ⟨_, rfl, k44_mk _ _, fun i u hu => ?_⟩
    match i, hu with
    | 0, hu =>
      simp only [List.getElem?_cons_zero, Option.some.injEq] at hu
      subst hu
      exact Joins.cell_of_block hx 0
    | 1, hu =>
      simp only [List.getElem?_cons_zero, List.getElem?_cons_succ, Option.some.injEq] at hu
      subst hu
      exact Joins.cell_of_block hx 1
    | 2, hu =>
      simp only [List.getElem?_cons_zero, List.getElem?_cons_succ, Option.some.injEq] at hu
      subst hu
      exact Joins.cell_of_block hx 2
    | n + 3, hu => simp at hu
/-- Faults stay. -/
def K44 (W w' : World) : Prop := ∀ (k : Nat) (cs : Array Value) (fr : Nat × Nat), W.heap[k]? = some (.cells cs 44 fr) → w'.heap[k]? = some (.cells cs 44 fr)
theorem K44.refl (W : World) : K44 W W := fun _ _ _ h => h
theorem K44.of_below {W w' : World} (h : Below W.heap.size W w') : K44 W w' := fun k cs fr hk => by rw [h.block k (blk_lt hk)]; exact hk
theorem K44.set {W : World} {g t : Nat} {cs : Array Value} (hg : W.heap[g]? = some (.cells cs t (0, 0))) (ht : t ≠ 44) (k : Nat) (v : Value) : K44 W (W.setCell ⟨g, k, none⟩ v) := fun x cs2 fr hx => by
  have hne : x ≠ g := fun e => by
    subst e
    rw [hx] at hg
    simp only [Option.some.injEq, Obj.cells.injEq] at hg
    exact ht hg.2.1.symm
  exact (Below.heap_setCell W ⟨g, k, none⟩ v x hne).trans hx
theorem K44.R {W w' : World} (h : K44 W w') {base : Nat} {ok : Nat → Prop} {v : Value} {xs : List S44} (hr : Kd.R k44 44 W base ok v xs) : Kd.R k44 44 w' base ok v xs := by
  have h2 := Kd.R_move (Kd.R_bound hr) (w1 := w') (fun k hk => by
    obtain ⟨_, _, _, q, hq, cells, hc⟩ := hk
    have hq5 : q = 44 := by
      rcases List.mem_cons.1 hq with h | h
      · exact h
      · cases h
    subst hq5
    rw [h k cells (0, 0) hc, hc])
  exact Kd.R_mono h2 (fun _ hk => hk.1)
/-- The stages of Arm's stores. -/
def armS (w0 w1 : World) (gc gb : Nat) (gp : Nat → Nat) (m : Ch) (D : Nat → Nat → List Int) (f : S44) : Nat → World → Prop
  | 0, w' => Below w1.heap.size w1 w'
  | 1, w' => ∃ v : Value, St w0 w' gc gb gp ({ m with plan := v, pl := [f] } : Ch) D ∧ Keeps w1 w'
  | _, w' => ∃ v : Value, St w0 w' gc gb gp ({ m with plan := v, pl := [f], frm := m.ops } : Ch) D ∧ Keeps w1 w'
set_option maxRecDepth 100000 in
set_option maxHeartbeats 8000000 in
theorem arm_one (h : St w0 W gc gb gp m D) {g : Nat} {fr : Nat × Nat} (f : S44) (hx : W.heap[g]? = some (.cells #[.int .i64 f.f0, .int .i64 f.f1, .int .i64 f.f2] 44 fr)) (h0 : 1 ≤ f.f0) (h1 : f.f1 = 1) (h2 : 0 ≤ f.f2) (h3 : f.f2 ≤ 2) :
    Calls Try.prog 15 #[cp gc, .slice (some ⟨g, 0, none⟩) 1 1] W fun e w' => e = .returned (.int .i64 0) ∧ (∃ v : Value, St w0 w' gc gb gp ({ m with plan := v, pl := [f], frm := m.ops } : Ch) D) ∧ Keeps W w' := by
  have HRP := Aside0.mk (rightPlan_one f hx h0 h1 h2 h3 1 (Nat.le_refl 1))
  have H := Aside0.mk h
  have HC := Aside0.mk (C44_one hx)
  have hu32 := Try.underlying32
  clear h hx h0 h1 h2 h3
  go_enter Try.func15, Try.ntmps15
  go_upto_region 5 with (first
    | (go_at_call 25; (with_reducible refine HRP.out.mono ?_); rintro e w1 ⟨rfl, hb1⟩; have HB1 := Aside0.mk hb1; have H1 := Aside0.mk (H.out.grow hb1); clear hb1))
  have HCL := Aside0.mk (fun (wq : World) (hS : Below w1.heap.size w1 wq) => show Calls Try.prog 26 #[.slice (some ⟨g, 0, none⟩) 1 1] wq (fun e w' => ∃ v0_ : Value, e = .returned (v0_) ∧ Kd.R k44 44 w' wq.heap.size (fun _ => True) v0_ [f] ∧ Below wq.heap.size wq w') from clone44 ⟨g, 0, none⟩ 1 [f] wq (Kd.C_below HC.out (below_step HB1.out hS)) (by simp) (by simp))
  refine RelS.relS [(0, 10, .inl ?r1v0), (1, 11, .inl ?r1v1), (2, 12, .inl ?r1v2), (3, 13, .inr (fun v w' => Kd.R k44 44 w' w0.heap.size (fun _ => True) v [f])), (4, 14, .inl ?r1v4), (5, 15, .inl ?r1v5), (6, 16, .inl ?r1v6), (7, 17, .inl ?r1v7), (8, 18, .inl ?r1v8), (9, 19, .inl ?r1v9), (11, 20, .inl ?r1v11), (12, 21, .inl ?r1v12)] [10, 13] (armS w0 w1 gc gb gp m D f) K44 (by rfl) rfl (by kernel_rfl) (by decide) (by decide) ?r1S (Rel.stable_inl (Rel.stable_inl (Rel.stable_inl (Rel.stable_inr (fun v w w' hb h => K44.R hb h) (Rel.stable_inl (Rel.stable_inl (Rel.stable_inl (Rel.stable_inl (Rel.stable_inl (Rel.stable_inl (Rel.stable_inl (Rel.stable_inl Rel.stable_nil)))))))))))) ?r1steps ?r1okv ?r1hlt ?r1fin
  case r1S => exact below_drew (Below.refl _ _)
  case r1steps =>
    refine RelS.fromS_some 0 rfl rfl (fun s a wq hlo hhi hS hK K hC => ?_) ?_
    · refine Reg.step_on (by rfl) ?_
      clear hlo hhi
      have e0 := hK.off 0 _ rfl rfl
      clear hK
      go_simp
      exact hC _ hS (K44.refl _)
    refine RelS.fromS_some 1 rfl rfl (fun s a wq hlo hhi hS hK K hC => ?_) ?_
    · refine Reg.step_on (by rfl) ?_
      clear hlo hhi
      have e0 := hK.off 0 _ rfl rfl
      clear hK
      go_simp
      exact hC _ hS (K44.refl _)
    refine RelS.fromS_some 2 rfl rfl (fun s a wq hlo hhi hS hK K hC => ?_) ?_
    · refine Reg.step_on (by rfl) ?_
      clear hlo hhi
      have e1 := hK.off 1 _ rfl rfl
      clear hK
      go_simp
      exact hC _ hS (K44.refl _)
    refine RelS.fromS_rel 3 rfl rfl (fun s a wq hlo hhi hS hK K hC => ?_) ?_
    · refine Reg.step_on (by rfl) ?_
      obtain rfl : s = 0 := Nat.le_antisymm (Nat.le_trans hhi (Nat.le_of_eq (by kernel_rfl))) (Nat.le_trans (Nat.le_of_eq (by kernel_rfl)) hlo)
      clear hlo hhi
      have e12 := hK.slot 2 _ _ _ rfl (by kernel_rfl)
      clear hK
      go_simp
      change Below w1.heap.size w1 wq at hS
      go_at_call 26; (with_reducible refine (HCL.out wq hS).mono ?_)
      rintro e w' ⟨v, rfl, ho, hb⟩
      exact hC v w' (below_step hS hb) (K44.of_below hb) (Kd.R_lower ho (below_size (H1.out.grow hS).below))
    refine RelS.fromS_some 4 rfl rfl (fun s a wq hlo hhi hS hK K hC => ?_) ?_
    · refine Reg.step_on (by rfl) ?_
      clear hlo hhi
      have e0 := hK.off 0 _ rfl rfl
      clear hK
      go_simp
      exact hC _ hS (K44.refl _)
    refine RelS.fromS_some 5 rfl rfl (fun s a wq hlo hhi hS hK K hC => ?_) ?_
    · refine Reg.step_on (by rfl) ?_
      clear hlo hhi
      have e14 := hK.slot 4 _ _ _ rfl (by kernel_rfl)
      clear hK
      go_simp
      exact hC _ hS (K44.refl _)
    refine RelS.fromS_some 6 rfl rfl (fun s a wq hlo hhi hS hK K hC => ?_) ?_
    · refine Reg.step_on (by rfl) ?_
      clear hlo hhi
      have e15 := hK.slot 5 _ _ _ rfl (by kernel_rfl)
      clear hK
      go_simp
      exact hC _ hS (K44.refl _)
    refine RelS.fromS_some 7 rfl rfl (fun s a wq hlo hhi hS hK K hC => ?_) ?_
    · refine Reg.step_on (by rfl) ?_
      obtain rfl : s = 0 := Nat.le_antisymm (Nat.le_trans hhi (Nat.le_of_eq (by kernel_rfl))) (Nat.le_trans (Nat.le_of_eq (by kernel_rfl)) hlo)
      clear hlo hhi
      have e16 := hK.slot 6 _ _ _ rfl (by kernel_rfl)
      have zz : wq.cell? ⟨gc, 8, none⟩ = some (.int .i64 m.ops) := (H1.out.grow hS).cellC 8
      clear hK
      go_simp
      exact hC _ hS (K44.refl _)
    refine RelS.fromS_some 8 rfl rfl (fun s a wq hlo hhi hS hK K hC => ?_) ?_
    · refine Reg.step_on (by rfl) ?_
      clear hlo hhi
      have e10 := hK.slot 0 _ _ _ rfl (by kernel_rfl)
      clear hK
      go_simp
      exact hC _ hS (K44.refl _)
    refine RelS.fromS_some 9 rfl rfl (fun s a wq hlo hhi hS hK K hC => ?_) ?_
    · refine Reg.step_on (by rfl) ?_
      clear hlo hhi
      have e18 := hK.slot 8 _ _ _ rfl (by kernel_rfl)
      clear hK
      go_simp
      exact hC _ hS (K44.refl _)
    refine RelS.fromS_none rfl rfl (fun s a wq hlo hhi hS hK K hC => ?_) ?_
    · refine Reg.step_on (by rfl) ?_
      obtain rfl : s = 0 := Nat.le_antisymm (Nat.le_trans hhi (Nat.le_of_eq (by kernel_rfl))) (Nat.le_trans (Nat.le_of_eq (by kernel_rfl)) hlo)
      clear hlo hhi
      have e19 := hK.slot 9 _ _ _ rfl (by kernel_rfl)
      obtain ⟨u13, e13, q13⟩ := hK.rel 3 _ _ _ rfl (by kernel_rfl)
      have h5 := H1.out.grow hS
      have c5 := h5.cellC 5
      have f5 := blk_frozen h5.c 5
      have H5 := Aside0.mk h5
      have HK5 := Aside0.mk (Keeps.of_below hS)
      have HQ := Aside0.mk q13
      obtain ⟨A6, c6, e6⟩ := Kd.R_slice q13
      subst e6
      clear hK hS h5 q13
      go_simp
      exact hC _ ⟨_, H5.out.setC 5 _ rfl rfl HQ.out, HK5.out.set H5.out.c (by decide) _ _⟩ (K44.set H5.out.c (by decide) _ _)
    refine RelS.fromS_some 10 rfl rfl (fun s a wq hlo hhi hS hK K hC => ?_) ?_
    · refine Reg.step_on (by rfl) ?_
      clear hlo hhi
      have e11 := hK.slot 1 _ _ _ rfl (by kernel_rfl)
      clear hK
      go_simp
      exact hC _ hS (K44.refl _)
    refine RelS.fromS_some 11 rfl rfl (fun s a wq hlo hhi hS hK K hC => ?_) ?_
    · refine Reg.step_on (by rfl) ?_
      clear hlo hhi
      have e20 := hK.slot 10 _ _ _ rfl (by kernel_rfl)
      clear hK
      go_simp
      exact hC _ hS (K44.refl _)
    refine RelS.fromS_none rfl rfl (fun s a wq hlo hhi hS hK K hC => ?_) ?_
    · refine Reg.step_on (by rfl) ?_
      obtain rfl : s = 1 := Nat.le_antisymm (Nat.le_trans hhi (Nat.le_of_eq (by kernel_rfl))) (Nat.le_trans (Nat.le_of_eq (by kernel_rfl)) hlo)
      clear hlo hhi
      have e21 := hK.slot 11 _ _ _ rfl (by kernel_rfl)
      have e17 := hK.slot 7 _ _ _ rfl (by kernel_rfl)
      obtain ⟨v5, h5, hk5⟩ := hS
      have c6 := h5.cellC 6
      have f6 := blk_frozen h5.c 6
      have H5 := Aside0.mk h5
      have HK5 := Aside0.mk hk5
      clear hK h5 hk5
      go_simp
      exact hC _ ⟨_, H5.out.setC 6 _ rfl rfl H5.out.pln, HK5.out.set H5.out.c (by decide) _ _⟩ (K44.set H5.out.c (by decide) _ _)
    exact RelS.fromS_nil
  case r1okv => rfl
  case r1hlt => rfl
  case r1fin =>
    intro U wz hS hU
    have q3 := hU 3 _ _ _ rfl
    clear hU
    simp only [Rel.inst, Nat.zero_add, Nat.reduceAdd, Reg.putV, List.foldl_cons, List.foldl_nil, Act.put, List.setIfInBounds_toArray, List.set_cons_zero, List.set_cons_succ]
    obtain ⟨v, h5, hk5⟩ : ∃ v : Value, St w0 wz gc gb gp ({ m with plan := v, pl := [f], frm := m.ops } : Ch) D ∧ Keeps w1 wz := hS
    have H5 := Aside0.mk h5
    have HK5 := Aside0.mk hk5
    clear q3 h5 hk5
    go_wp2
    go_ret
    exact ⟨rfl, ⟨v, H5.out⟩, (Keeps.of_below HB1.out).trans HK5.out⟩
set_option maxHeartbeats 8000000 in
set_option maxRecDepth 100000 in
theorem same_calls' (A0 : Option Addr) (c0 : Nat) (l : List Int) (A1 : Option Addr) (c1 : Nat) (w : World) (hr0 : Kd.C (Kd.int .u8) w A0 l.length l) (hr1 : Kd.C (Kd.int .u8) w A1 l.length l) :
    Calls Try.prog 14 #[.slice A0 l.length c0, .slice A1 l.length c1] w fun e w' => e = .returned (.bool true) ∧ Below w.heap.size w w' := by
  have hcv3 := Kd.C_string (P := Try.prog) (A := A0) (c := c0) Try.underlying31 Try.underlying5 Try.underlying9 hr0
  have hcv4 := Kd.C_string (P := Try.prog) (A := A1) (c := c1) Try.underlying31 Try.underlying5 Try.underlying9 hr1
  clear hr0 hr1
  go_enter Try.func14, Try.ntmps14
  go_wp2
  go_ret
  exact ⟨by first | rfl | (simp; done), Below.refl _ _⟩
set_option maxRecDepth 100000 in
set_option maxHeartbeats 8000000 in
theorem power_is (h : St w0 W gc gb gp m D) : Calls Try.prog 17 #[cp gc] W fun e w' => e = .returned (.tuple #[]) ∧ St w0 w' gc gb gp { m with off := false } D ∧ Keeps W w' := by
  have c7 := h.cellC 7
  have f7 := blk_frozen h.c 7
  have H := Aside0.mk h
  clear h
  go_enter Try.func17, Try.ntmps17
  go_wp2
  go_end0
  exact ⟨rfl, H.out.setC 7 _ rfl rfl H.out.pln, (Keeps.refl _).set H.out.c (by decide) _ _⟩
theorem rdE_at (ho : m.off = false) (n p : Nat) (hn : n < 16) (hp : p < 16) : rdE m n p = if ((m.bk n).pg p).st = 2 then 5 else 0 := by
  unfold rdE
  rw [if_neg (by rw [ho]; decide), if_neg (by omega), if_neg (by omega), Int.toNat_natCast, Int.toNat_natCast]
theorem rdL_at (ho : m.off = false) (n p : Nat) (hn : n < 16) (hp : p < 16) : rdL m D n p = if ((m.bk n).pg p).st = 2 then [] else if ((m.bk n).pg p).st = 1 then D n p ++ List.replicate (128 - (D n p).length) 255 else List.replicate 128 255 := by
  unfold rdL
  rw [if_neg (by rw [ho]; decide), if_neg (by omega), if_neg (by omega), Int.toNat_natCast, Int.toNat_natCast]
theorem nxt_at (n : Nat) (hn : n < 16) : nxt m n = (m.bk n).nx := by
  unfold nxt
  rw [if_neg (by omega), Int.toNat_natCast]
/-- Two blocks hold i pages of the same bytes. -/
structure LS (m : Ch) (D : Nat → Nat → List Int) (i : Nat) (l : List Int) : Prop where
  inv : Inv m D
  off : m.off = false
  pl : m.pl = []
  wrong : m.wrong = 0
  ops : m.ops = 2 * i
  frm : m.frm = 0
  b2 : (m.bk 2).bad = false
  b7 : (m.bk 7).bad = false
  n2 : (m.bk 2).nx = i
  n7 : (m.bk 7).nx = i
  st : ∀ j, j < 16 → ((m.bk 2).pg j).st = if j < i then 1 else 0
  da : ∀ j, j < i → D 2 j = l
/-- What the cut has left. -/
structure TS (m m' : Ch) (D D' : Nat → Nat → List Int) (p : Nat) (l : List Int) (er : Bool) (tn : Int) (f : S44) : Prop where
  inv : Inv m' D'
  wrong : m'.wrong = 0
  n7 : (m'.bk 7).nx = p
  pl : m'.pl = [f]
  frm : m'.frm = 2 * p
  ops : m'.ops = 2 * p + 1
  b2 : (m'.bk 2).bad = false
  k0 : tn = 0 → (m'.bk 2).pg 0 = (m.bk 2).pg 0 ∧ D' 2 0 = D 2 0 ∧ (m'.bk 2).nx = p
  e1 : er = true → tn = 1 → (∀ j, j < 16 → ((m'.bk 2).pg j).st = 2) ∧ (m'.bk 2).nx = 16
  e2 : er = true → tn = 2 → ((m'.bk 2).pg 0).st = 0 ∧ (m'.bk 2).nx = 0
  p1 : er = false → tn = 1 → ((m'.bk 2).pg p).st = 2 ∧ (m'.bk 2).nx = p + 1
  p2 : er = false → tn = 2 → ((m'.bk 2).pg p).st = 1 ∧ D' 2 p = l ∧ (m'.bk 2).nx = p + 1
def marm (m : Ch) (v : Value) (f : S44) : Ch := { m with plan := v, pl := [f], frm := m.ops }
def pst (m : Ch) (n i : Nat) (v : Value) : Ch := ({ m with ops := wrap64 (m.ops + 1) } : Ch).setBk n { ((m.bk n).setPg i ⟨1, v⟩) with nx := (i : Int) + 1 }
theorem Inv.upd (h : Inv m D) (n i : Nat) (l : List Int) (hl : l.length ≤ 128) : ∀ x y, x < 16 → y < 16 → (updD D n i l x y).length ≤ 128 := fun x y hx hy => by
  unfold updD
  by_cases h9 : x = n ∧ y = i
  · rw [if_pos h9]; exact hl
  · rw [if_neg h9]; exact h.len x y hx hy
theorem Inv.setPgB (h : Inv m D) (n i : Nat) (hn : n < 16) (st : Int) (v : Value) (hs : st = 0 ∨ st = 1 ∨ st = 2) : ∀ j, j < 16 → ((((m.bk n).setPg i ⟨st, v⟩)).pg j).st = 0 ∨ ((((m.bk n).setPg i ⟨st, v⟩)).pg j).st = 1 ∨ ((((m.bk n).setPg i ⟨st, v⟩)).pg j).st = 2 := fun j hj => by
  by_cases hjp : j = i
  · subst hjp
    simp only [Bk.setPg, if_true]
    exact hs
  · simp only [Bk.setPg, hjp, if_false]
    exact h.st n j hn hj
theorem Inv.same (h : Inv m D) {m' : Ch} (hb : m'.bk = m.bk) : Inv m' D := ⟨fun i j => by rw [hb]; exact h.st i j, h.len⟩
theorem Inv.pst (h : Inv m D) (n i : Nat) (hn : n < 16) (v : Value) (l : List Int) (hl : l.length ≤ 128) : Inv (pst m n i v) (updD D n i l) :=
  Inv.setBk (m := { m with ops := wrap64 (m.ops + 1) }) (D := D) (h.same rfl) n _ (h.setPgB n i hn 1 v (.inr (.inl rfl))) (h.upd n i l hl)
theorem LS.zero (l : List Int) : LS m0 (fun _ _ => []) 0 l := by
  refine ⟨⟨fun i j _ _ => .inl rfl, fun i j _ _ => Nat.zero_le _⟩, rfl, rfl, rfl, rfl, rfl, rfl, rfl, rfl, rfl, fun j _ => ?_, fun j hj => by omega⟩
  rw [if_neg (by omega)]
  rfl
theorem LS.step {i : Nat} {l : List Int} (h : LS m D i l) (hi : i < 16) (hl : l.length ≤ 128) (v v' : Value) : LS (pst (pst m 2 i v) 7 i v') (updD (updD D 2 i l) 7 i l) (i + 1) l := by
  refine ⟨(h.inv.pst 2 i (by decide) v l hl).pst 7 i (by decide) v' l hl, h.off, h.pl, h.wrong, ?_, h.frm, ?_, ?_, ?_, ?_, fun j hj => ?_, fun j hj => ?_⟩
  · show wrap64 (wrap64 (m.ops + 1) + 1) = _
    have e1 : wrap64 (2 * (i : Int) + 1) = 2 * (i : Int) + 1 := wrap_in _ (by omega)
    rw [h.ops, e1, wrap_in _ (by omega)]
    push_cast
    omega
  · have := h.b2
    simpa [pst, Ch.setBk, Bk.setPg] using this
  · have := h.b7
    simpa [pst, Ch.setBk, Bk.setPg] using this
  · simp [pst, Ch.setBk, Bk.setPg]
  · simp [pst, Ch.setBk, Bk.setPg]
  · have h1 := h.st j hj
    by_cases hji : j = i
    · subst hji
      simp [pst, Ch.setBk, Bk.setPg]
    · have h2 : (j < i + 1) = (j < i) := by
        apply propext
        omega
      simpa [pst, Ch.setBk, Bk.setPg, hji, h2] using h1
  · by_cases hji : j = i
    · subst hji
      simp [updD]
    · have h1 := h.da j (by omega)
      simpa [updD, hji] using h1
theorem ts_e0 {p : Nat} {l : List Int} (h : LS m D p l) (hp : p ≤ 15) (v : Value) (f : S44) : TS m (({ marm m v f with ops := wrap64 ((marm m v f).ops + 1), off := true } : Ch).setBk 2 { (marm m v f).bk 2 with er := wrap64 (((marm m v f).bk 2).er + 1) }) D D p l true 0 f := by
  have ho := h.ops
  refine ⟨Inv.setBk (m := { marm m v f with ops := wrap64 ((marm m v f).ops + 1), off := true }) (D := D) (h.inv.same rfl) 2 _ (fun j hj => h.inv.st 2 j (by decide) hj) h.inv.len, h.wrong, ?_, rfl, ho, ?_, ?_, fun _ => ⟨?_, rfl, ?_⟩, fun _ h => absurd h (by decide), fun _ h => absurd h (by decide), fun h => absurd h (by decide), fun h => absurd h (by decide)⟩
  · simpa [marm, Ch.setBk] using h.n7
  · show wrap64 (m.ops + 1) = _
    rw [ho, wrap_in _ (by omega)]
  · simpa [marm, Ch.setBk] using h.b2
  · simp [marm, Ch.setBk]
  · simpa [marm, Ch.setBk] using h.n2
theorem ts_er {p : Nat} {l : List Int} (h : LS m D p l) (hp : p ≤ 15) (v : Value) (f : S44) (st nx tn : Int) (h1 : tn ≠ 0) (hs : tn = 1 ∧ st = 2 ∧ nx = 16 ∨ tn = 2 ∧ st = 0 ∧ nx = 0) : TS m (({ marm m v f with ops := wrap64 ((marm m v f).ops + 1), off := true } : Ch).setBk 2 { clr st 16 { (marm m v f).bk 2 with er := wrap64 (((marm m v f).bk 2).er + 1) } with nx := nx }) D (clrD D 2 16) p l true tn f := by
  have ho := h.ops
  refine ⟨Inv.setBk (m := { marm m v f with ops := wrap64 ((marm m v f).ops + 1), off := true }) (D := D) (h.inv.same rfl) 2 _ (fun j hj => ?_) (fun x y hx hy => ?_), h.wrong, ?_, rfl, ho, ?_, ?_, fun h => absurd h h1, fun _ ht => ⟨fun j hj => ?_, ?_⟩, fun _ ht => ⟨?_, ?_⟩, fun h => absurd h (by decide), fun h => absurd h (by decide)⟩
  · have : (clr st 16 { (marm m v f).bk 2 with er := wrap64 (((marm m v f).bk 2).er + 1) }).pg j = ⟨st, .slice none 0 0⟩ := by simp [clr, hj]
    show ((clr st 16 { (marm m v f).bk 2 with er := wrap64 (((marm m v f).bk 2).er + 1) }).pg j).st = 0 ∨ ((clr st 16 { (marm m v f).bk 2 with er := wrap64 (((marm m v f).bk 2).er + 1) }).pg j).st = 1 ∨ ((clr st 16 { (marm m v f).bk 2 with er := wrap64 (((marm m v f).bk 2).er + 1) }).pg j).st = 2
    rw [this]
    show st = 0 ∨ st = 1 ∨ st = 2
    omega
  · unfold clrD
    by_cases h9 : x = 2 ∧ y < 16
    · rw [if_pos h9]; exact Nat.zero_le _
    · rw [if_neg h9]; exact h.inv.len x y hx hy
  · simpa [marm, Ch.setBk] using h.n7
  · show wrap64 (m.ops + 1) = _
    rw [ho, wrap_in _ (by omega)]
  · simpa [marm, Ch.setBk, clr] using h.b2
  · have hst : st = 2 := by omega
    subst hst
    simp [marm, Ch.setBk, clr, hj]
  · have hst : nx = 16 := by omega
    subst hst
    simp [marm, Ch.setBk]
  · have hst : st = 0 := by omega
    subst hst
    simp [marm, Ch.setBk, clr]
  · have hst : nx = 0 := by omega
    subst hst
    simp [marm, Ch.setBk]
theorem ts_p0 {p : Nat} {l : List Int} (h : LS m D p l) (hp : p ≤ 15) (v : Value) (f : S44) : TS m ({ marm m v f with ops := wrap64 ((marm m v f).ops + 1), off := true } : Ch) D D p l false 0 f := by
  have ho := h.ops
  refine ⟨h.inv.same rfl, h.wrong, h.n7, rfl, ho, ?_, h.b2, fun _ => ⟨rfl, rfl, h.n2⟩, fun h => absurd h (by decide), fun h => absurd h (by decide), fun _ h => absurd h (by decide), fun _ h => absurd h (by decide)⟩
  show wrap64 (m.ops + 1) = _
  rw [ho, wrap_in _ (by omega)]
theorem ts_p1 {p : Nat} {l : List Int} (h : LS m D p l) (hp : p ≤ 15) (v v2 : Value) (f : S44) (st tn : Int) (l2 : List Int) (hl : l2.length ≤ 128) (h1 : tn ≠ 0) (hs : tn = 1 ∧ st = 2 ∨ tn = 2 ∧ st = 1 ∧ l2 = l) : TS m (({ marm m v f with ops := wrap64 ((marm m v f).ops + 1), off := true } : Ch).setBk 2 { (((marm m v f).bk 2).setPg p ⟨st, v2⟩) with nx := (p : Int) + 1 }) D (updD D 2 p l2) p l false tn f := by
  have ho := h.ops
  refine ⟨Inv.setBk (m := { marm m v f with ops := wrap64 ((marm m v f).ops + 1), off := true }) (D := D) (h.inv.same rfl) 2 _ (h.inv.setPgB 2 p (by decide) st v2 (by omega)) (h.inv.upd 2 p l2 hl), h.wrong, ?_, rfl, ho, ?_, ?_, fun h => absurd h h1, fun h => absurd h (by decide), fun h => absurd h (by decide), fun _ ht => ⟨?_, ?_⟩, fun _ ht => ⟨?_, ?_, ?_⟩⟩
  · simpa [marm, Ch.setBk] using h.n7
  · show wrap64 (m.ops + 1) = _
    rw [ho, wrap_in _ (by omega)]
  · simpa [marm, Ch.setBk, Bk.setPg] using h.b2
  · have hst : st = 2 := by omega
    simp [marm, Ch.setBk, Bk.setPg, hst]
  · simp [marm, Ch.setBk]
  · have hst : st = 1 := by omega
    simp [marm, Ch.setBk, Bk.setPg, hst]
  · rcases hs with h9 | h9
    · omega
    · simp [updD, h9.2.2]
  · simp [marm, Ch.setBk]
set_option maxHeartbeats 16000000 in
set_option maxRecDepth 100000 in
theorem torn_is (P : Int) (A : Option Addr) (c : Nat) (l : List Int) (tn : Int) (er : Bool) (w : World) (hr : Kd.C (Kd.int .u8) w A l.length l) (hc : l.length ≤ c) :
    Calls Try.prog 4 #[.int .i64 P, .slice A l.length c, .int .i64 tn, .bool er] w fun e w' => e = .returned (.bool true) ∧ Below w.heap.size w w' := by
  have HR := Aside0.mk hr
  have HCC := Aside0.mk hc
  have hu44 := Try.underlying44
  clear hr hc
  go_enter Try.func4, Try.ntmps4
  go_upto_region 2 with (first
    | (go_at_call 7; (with_reducible refine (small_is _).mono ?_); rintro e w1 ⟨rfl, hb1⟩; have HB1 := Aside0.mk hb1; clear hb1)
    | (go_at_call 6; (with_reducible refine (new_small _).mono ?_); rintro e w2 ⟨gc, gb, gp, rfl, h2⟩; have H2 := Aside0.mk (h2.lower HB1.out); clear h2))
  have HAL := Aside0.mk (alive_is w2)
  by_cases hP0 : P < 0
  · have d0 : decide (P < 0) = true := decide_eq_true (by omega)
    clear hP0
    go_wp2_with (first
      | (go_at_call 8; (with_reducible refine HAL.out.mono ?_); rintro e w3 ⟨rfl, hb3⟩; have H3 := Aside0.mk (H2.out.grow hb3); clear hb3))
    go_ret
    exact ⟨rfl, H3.out.below⟩
  have d0 : decide (P < 0) = false := decide_eq_false (by omega)
  by_cases hP1 : 15 < P
  · have d1 : decide (15 < P) = true := decide_eq_true (by omega)
    clear hP0 hP1
    go_wp2_with (first
      | (go_at_call 8; (with_reducible refine HAL.out.mono ?_); rintro e w3 ⟨rfl, hb3⟩; have H3 := Aside0.mk (H2.out.grow hb3); clear hb3))
    go_ret
    exact ⟨rfl, H3.out.below⟩
  have d1 : decide (15 < P) = false := decide_eq_false (by omega)
  by_cases hL1 : 128 < l.length
  · have d2 : decide (128 < (l.length : Int)) = true := decide_eq_true (by omega)
    have d9 : decide (128 < l.length) = true := decide_eq_true hL1
    clear hP0 hP1 hL1
    go_wp2_with (first
      | (go_at_call 8; (with_reducible refine HAL.out.mono ?_); rintro e w3 ⟨rfl, hb3⟩; have H3 := Aside0.mk (H2.out.grow hb3); clear hb3))
    go_ret
    exact ⟨rfl, H3.out.below⟩
  have d2 : decide (128 < (l.length : Int)) = false := decide_eq_false (by omega)
  have d9 : decide (128 < l.length) = false := decide_eq_false hL1
  by_cases hT0 : tn < 0
  · have d3 : decide (tn < 0) = true := decide_eq_true (by omega)
    clear hP0 hP1 hL1 hT0
    go_wp2_with (first
      | (go_at_call 8; (with_reducible refine HAL.out.mono ?_); rintro e w3 ⟨rfl, hb3⟩; have H3 := Aside0.mk (H2.out.grow hb3); clear hb3))
    go_ret
    exact ⟨rfl, H3.out.below⟩
  have d3 : decide (tn < 0) = false := decide_eq_false (by omega)
  by_cases hT1 : 2 < tn
  · have d4 : decide (2 < tn) = true := decide_eq_true (by omega)
    clear hP0 hP1 hL1 hT0 hT1
    go_wp2_with (first
      | (go_at_call 8; (with_reducible refine HAL.out.mono ?_); rintro e w3 ⟨rfl, hb3⟩; have H3 := Aside0.mk (H2.out.grow hb3); clear hb3))
    go_ret
    exact ⟨rfl, H3.out.below⟩
  have d4 : decide (2 < tn) = false := decide_eq_false (by omega)
  obtain ⟨p, rfl⟩ : ∃ k : Nat, P = (k : Int) := ⟨P.toNat, by omega⟩
  have hp : p ≤ 15 := by omega
  have hl : l.length ≤ 128 := by omega
  have HLL := Aside0.mk hl
  have HTN : Aside0 (tn = 0 ∨ tn = 1 ∨ tn = 2) := ⟨by omega⟩
  clear hP0 hP1 hL1 hT0 hT1
  go_upto_region 5 with (fail)
  clear d0 d1 d2 d3 d4 d9 hl
  go_loopg [11] (p) (fun kk v11 wr => ∃ (i : Nat) (m : Ch) (D : Nat → Nat → List Int), i + kk = p ∧ v11 = .int .i64 i ∧ Aside0 (St w wr gc gb gp m D) ∧ Aside0 (LS m D i l))
  case atStart => exact ⟨0, m0, _, by omega, rfl, H2, ⟨LS.zero l⟩⟩
  case round =>
    obtain ⟨i, m, D, hi, rfl, HS, HL⟩ := hrel
    by_cases hlt : i < p
    · have d0 : decide ((i : Int) < (p : Int)) = true := decide_eq_true (by omega)
      have hq : (i < p) = True := eq_true hlt
      have hi15 : i < 16 := by omega
      have HP1 := Aside0.mk (show Calls Try.prog 11 #[cp gc, .int .i64 2, .int .i64 i, .slice A l.length c] wr (fun e w' => e = .returned (.int .i64 0) ∧ (∃ v : Value, St w w' gc gb gp (pst m 2 i v) (updD D 2 i l)) ∧ Keeps wr w') from program_ok HS.out HL.out.off (by rw [HL.out.pl]; intro f hf; cases hf) 2 i (by decide) hi15 HL.out.b2 HL.out.n2 A c l (fun w' hb _ => Kd.C_below HR.out hb) HCC.out HLL.out)
      have HP2 := Aside0.mk (fun (w4 : World) (v : Value) (h : St w w4 gc gb gp (pst m 2 i v) (updD D 2 i l)) => show Calls Try.prog 11 #[cp gc, .int .i64 7, .int .i64 i, .slice A l.length c] w4 (fun e w' => e = .returned (.int .i64 0) ∧ (∃ v' : Value, St w w' gc gb gp (pst (pst m 2 i v) 7 i v') (updD (updD D 2 i l) 7 i l)) ∧ Keeps w4 w') from program_ok h HL.out.off (by show ∀ f ∈ m.pl, _; rw [HL.out.pl]; intro f hf; cases hf) 7 i (by decide) hi15 HL.out.b7 HL.out.n7 A c l (fun w' hb _ => Kd.C_below HR.out hb) HCC.out HLL.out)
      go_wp2_with (first
        | (go_at_call 11; (with_reducible refine HP1.out.mono ?_); rintro e w4 ⟨rfl, ⟨v4, h4⟩, -⟩; have HP3 := Aside0.mk (HP2.out w4 v4 h4); clear h4)
        | (go_at_call 11; (with_reducible refine HP3.out.mono ?_); rintro e w5 ⟨rfl, ⟨v5, h5⟩, -⟩; have H5 := Aside0.mk h5; clear h5))
      have hi9 : (i : Int) + 1 ≤ 9223372036854775807 := by omega
      go_wp2
      go_roundg (gk - 1)
      case measure => omega
      case rel => exact ⟨i + 1, _, _, by omega, by push_cast; rfl, H5, ⟨LS.step HL.out hi15 HLL.out v4 v5⟩⟩
    · obtain rfl : i = p := by omega
      have hi : (i < i) = False := eq_false (by omega)
      have HRD := Aside0.mk (show Calls Try.prog 9 #[cp gc, .int .i64 2, .int .i64 0] wr _ from read_any HS.out HL.out.inv 2 0)
      go_upto_region 10 with (first
        | (go_at_call 9; (with_reducible refine HRD.out.mono ?_); rintro e w6 ⟨v6, rfl, hr6, hb6⟩; obtain ⟨A6, c6, rfl, _, _⟩ := Kd.R_reads hr6; have HR6 := Aside0.mk hr6; have H6 := Aside0.mk (HS.out.grow hb6); clear hr6 hb6))
      have HARM := Aside0.mk (show Calls Try.prog 15 #[cp gc, .slice (some ⟨w6.heap.size, 0, none⟩) 1 1] (w6.alloc (.cells #[.int .i64 1, .int .i64 1, .int .i64 tn] 44)) (fun e w' => e = .returned (.int .i64 0) ∧ (∃ v : Value, St w w' gc gb gp (marm m v ⟨1, 1, tn⟩) D) ∧ Keeps (w6.alloc (.cells #[.int .i64 1, .int .i64 1, .int .i64 tn] 44)) w') from arm_one (H6.out.grow (below_alloc (Below.refl _ _) _)) ⟨1, 1, tn⟩ (new_blk _ _ _) (Int.le_refl 1) rfl (show (0 : Int) ≤ tn by have := HTN.out; omega) (show tn ≤ (2 : Int) by have := HTN.out; omega))
      have HKA := Aside0.mk (Keeps.of_below (below_alloc (Below.refl w6.heap.size w6) (.cells #[.int .i64 1, .int .i64 1, .int .i64 tn] 44)))
      go_upto_if 83 with (first
        | (go_at_call 15; (with_reducible refine HARM.out.mono ?_); rintro e w7 ⟨rfl, ⟨v7, h7⟩, hk7⟩; have H7 := Aside0.mk h7; have HK7 := Aside0.mk (HKA.out.trans hk7); clear h7 hk7))
      clear HARM HKA
      have hpl : (marm m v7 ⟨1, 1, tn⟩).pl = [⟨1, 1, tn⟩] := rfl
      have hf0 : (⟨1, 1, tn⟩ : S44).f0 = wrap64 (wrap64 ((marm m v7 ⟨1, 1, tn⟩).ops + 1) - (marm m v7 ⟨1, 1, tn⟩).frm) := by
        show (1 : Int) = wrap64 (wrap64 (m.ops + 1) - m.ops)
        have e1 : wrap64 (2 * (i : Int) + 1) = 2 * (i : Int) + 1 := wrap_in _ (by omega)
        rw [HL.out.ops, e1, wrap_in _ (by omega)]
        omega
      have HF0 := Aside0.mk hf0
      clear hf0 hpl
      go_cut [10] (fun v10 wx => v10 = .int .i64 6 ∧ ∃ (m' : Ch) (D' : Nat → Nat → List Int), Aside0 (St w wx gc gb gp m' D') ∧ Aside0 (Keeps w6 wx) ∧ Aside0 (m'.off = true) ∧ Aside0 (TS m m' D D' i l er tn ⟨1, 1, tn⟩))
      case first =>
        cases er with
        | true =>
          rcases HTN.out with rfl | rfl | rfl
          · have HP := Aside0.mk (show Calls Try.prog 12 #[cp gc, .int .i64 2] w7 _ from erase_cut0 H7.out HL.out.off ⟨1, 1, 0⟩ rfl HF0.out rfl rfl 2 (by decide) HL.out.b2)
            go_wp2_with (first
              | (go_at_call 12; (with_reducible refine HP.out.mono ?_); rintro e wy ⟨rfl, hs, hk⟩; have HSx := Aside0.mk hs; have HKx := Aside0.mk (HK7.out.trans hk); clear hs hk))
            go_meet
            case rel => exact ⟨rfl, _, _, HSx, HKx, ⟨rfl⟩, ⟨ts_e0 HL.out hp v7 ⟨1, 1, 0⟩⟩⟩
          · have HP := Aside0.mk (show Calls Try.prog 12 #[cp gc, .int .i64 2] w7 _ from erase_cut1 H7.out HL.out.off ⟨1, 1, 1⟩ rfl HF0.out rfl rfl 2 (by decide) HL.out.b2)
            go_wp2_with (first
              | (go_at_call 12; (with_reducible refine HP.out.mono ?_); rintro e wy ⟨rfl, hs, hk⟩; have HSx := Aside0.mk hs; have HKx := Aside0.mk (HK7.out.trans hk); clear hs hk))
            go_meet
            case rel => exact ⟨rfl, _, _, HSx, HKx, ⟨rfl⟩, ⟨ts_er HL.out hp v7 ⟨1, 1, 1⟩ 2 16 1 (by decide) (.inl ⟨rfl, rfl, rfl⟩)⟩⟩
          · have HP := Aside0.mk (show Calls Try.prog 12 #[cp gc, .int .i64 2] w7 _ from erase_cut2 H7.out HL.out.off ⟨1, 1, 2⟩ rfl HF0.out rfl rfl 2 (by decide) HL.out.b2)
            go_wp2_with (first
              | (go_at_call 12; (with_reducible refine HP.out.mono ?_); rintro e wy ⟨rfl, hs, hk⟩; have HSx := Aside0.mk hs; have HKx := Aside0.mk (HK7.out.trans hk); clear hs hk))
            go_meet
            case rel => exact ⟨rfl, _, _, HSx, HKx, ⟨rfl⟩, ⟨ts_er HL.out hp v7 ⟨1, 1, 2⟩ 0 0 2 (by decide) (.inr ⟨rfl, rfl, rfl⟩)⟩⟩
        | false =>
          rcases HTN.out with rfl | rfl | rfl
          · have HP := Aside0.mk (show Calls Try.prog 11 #[cp gc, .int .i64 2, .int .i64 i, .slice A l.length c] w7 _ from program_cut0 H7.out HL.out.off ⟨1, 1, 0⟩ rfl HF0.out rfl rfl 2 i (by decide) (by omega) HL.out.b2 HL.out.n2 A c l (fun w' hb _ => Kd.C_below HR.out hb) HCC.out HLL.out)
            go_wp2_with (first
              | (go_at_call 11; (with_reducible refine HP.out.mono ?_); rintro e wy ⟨rfl, hs, hk⟩; have HSx := Aside0.mk hs; have HKx := Aside0.mk (HK7.out.trans hk); clear hs hk))
            go_meet
            case rel => exact ⟨rfl, _, _, HSx, HKx, ⟨rfl⟩, ⟨ts_p0 HL.out hp v7 ⟨1, 1, 0⟩⟩⟩
          · have HP := Aside0.mk (show Calls Try.prog 11 #[cp gc, .int .i64 2, .int .i64 i, .slice A l.length c] w7 _ from program_cut1 H7.out HL.out.off ⟨1, 1, 1⟩ rfl HF0.out rfl rfl 2 i (by decide) (by omega) HL.out.b2 HL.out.n2 A c l (fun w' hb _ => Kd.C_below HR.out hb) HCC.out HLL.out)
            go_wp2_with (first
              | (go_at_call 11; (with_reducible refine HP.out.mono ?_); rintro e wy ⟨rfl, hs, hk⟩; have HSx := Aside0.mk hs; have HKx := Aside0.mk (HK7.out.trans hk); clear hs hk))
            go_meet
            case rel => exact ⟨rfl, _, _, HSx, HKx, ⟨rfl⟩, ⟨ts_p1 HL.out hp v7 _ ⟨1, 1, 1⟩ 2 1 [] (by decide) (by decide) (.inl ⟨rfl, rfl⟩)⟩⟩
          · have HP := Aside0.mk (show Calls Try.prog 11 #[cp gc, .int .i64 2, .int .i64 i, .slice A l.length c] w7 _ from program_cut2 H7.out HL.out.off ⟨1, 1, 2⟩ rfl HF0.out rfl rfl 2 i (by decide) (by omega) HL.out.b2 HL.out.n2 A c l (fun w' hb _ => Kd.C_below HR.out hb) HCC.out HLL.out)
            go_wp2_with (first
              | (go_at_call 11; (with_reducible refine HP.out.mono ?_); rintro e wy ⟨rfl, ⟨v9, hs⟩, hk⟩; have HSx := Aside0.mk hs; have HKx := Aside0.mk (HK7.out.trans hk); clear hs hk))
            go_meet
            case rel => exact ⟨rfl, _, _, HSx, HKx, ⟨rfl⟩, ⟨ts_p1 HL.out hp v7 v9 ⟨1, 1, 2⟩ 1 2 l HLL.out (by decide) (.inr ⟨rfl, rfl, rfl⟩)⟩⟩
      case rest =>
        obtain ⟨rfl, m', D', HS', HK', HOF, HT⟩ := hcut
        clear HF0 H7 HK7
        have HRE := Aside0.mk (show Calls Try.prog 9 #[cp gc, .int .i64 7, .int .i64 0] wc _ from read_err (k := 6) (by decide) 7 0 (ready_off HS'.out HOF.out 7))
        go_upto_region 16 with (first
          | (go_at_call 9; (with_reducible refine HRE.out.mono ?_); rintro e w10 ⟨rfl, hb10⟩; have HB10 := Aside0.mk hb10; have H10 := Aside0.mk (HS'.out.grow hb10); clear hb10))
        have HON := Aside0.mk (show Calls Try.prog 16 #[cp gc] w10 (fun e w' => e = .returned (.bool false) ∧ Below w10.heap.size w10 w') from (on_is H10.out).mono (fun e w' h => ⟨h.1.trans (by rw [HOF.out]; rfl), h.2⟩))
        have HPE := Aside0.mk (fun (w' : World) (hb : Below w10.heap.size w10 w') => show Calls Try.prog 11 #[cp gc, .int .i64 7, .int .i64 i, .slice A l.length c] w' _ from program_err (k := 6) (by decide) 7 i (.slice A l.length c) (ready_off (H10.out.grow hb) HOF.out 7))
        have HEE := Aside0.mk (fun (w' : World) (hb : Below w10.heap.size w10 w') => show Calls Try.prog 12 #[cp gc, .int .i64 7] w' _ from erase_err (k := 6) (by decide) 7 (ready_off (H10.out.grow hb) HOF.out 7))
        have HME := Aside0.mk (fun (w' : World) (hb : Below w10.heap.size w10 w') => show Calls Try.prog 13 #[cp gc, .int .i64 7] w' _ from mark_err (k := 6) (by decide) 7 (ready_off (H10.out.grow hb) HOF.out 7))
        go_upto_region 18 with (first
          | (go_at_call 16; (with_reducible refine HON.out.mono ?_); rintro e w11 ⟨rfl, hb11⟩; have HB11 := Aside0.mk hb11; have HP11 := Aside0.mk (HPE.out w11 hb11); clear hb11)
          | (go_at_call 11; (with_reducible refine HP11.out.mono ?_); rintro e w12 ⟨rfl, hb12⟩; have HB12 := Aside0.mk (below_step HB11.out hb12); have HE12 := Aside0.mk (HEE.out w12 HB12.out); clear hb12)
          | (go_at_call 12; (with_reducible refine HE12.out.mono ?_); rintro e w13 ⟨rfl, hb13⟩; have HB13 := Aside0.mk (below_step HB12.out hb13); have HM13 := Aside0.mk (HME.out w13 HB13.out); clear hb13)
          | (go_at_call 13; (with_reducible refine HM13.out.mono ?_); rintro e w14 ⟨rfl, hb14⟩; have HB14 := Aside0.mk (below_step HB13.out hb14); clear hb14))
        have H14 := Aside0.mk (H10.out.grow HB14.out)
        have HK14 := Aside0.mk (HK'.out.trans ((Keeps.of_below HB10.out).trans (Keeps.of_below HB14.out)))
        clear HRE HON HPE HEE HME HP11 HE12 HM13
        have HPW := Aside0.mk (power_is H14.out)
        obtain ⟨M, hM⟩ : ∃ M : Ch, M = { m' with off := false } := ⟨_, rfl⟩
        rw [← hM] at HPW
        have HIV : Aside0 (Inv M D') := ⟨by rw [hM]; exact HT.out.inv.same rfl⟩
        have HTM : Aside0 (TS m M D D' i l er tn ⟨1, 1, tn⟩) := ⟨by
          rw [hM]
          exact ⟨HT.out.inv.same rfl, HT.out.wrong, HT.out.n7, HT.out.pl, HT.out.frm, HT.out.ops, HT.out.b2, HT.out.k0, HT.out.e1, HT.out.e2, HT.out.p1, HT.out.p2⟩⟩
        have HMO : Aside0 (M.off = false) := ⟨by rw [hM]⟩
        clear hM HT HOF
        have HRA := Aside0.mk (fun (w' : World) (h : St w w' gc gb gp M D') => show Calls Try.prog 9 #[cp gc, .int .i64 2, .int .i64 0] w' _ from read_any h HIV.out 2 0)
        have HRB := Aside0.mk (fun (w' : World) (h : St w w' gc gb gp M D') => show Calls Try.prog 9 #[cp gc, .int .i64 2, .int .i64 i] w' _ from read_any h HIV.out 2 i)
        go_upto_region 19 with (first
          | (go_at_call 17; (with_reducible refine HPW.out.mono ?_); rintro e w15 ⟨rfl, h15, hk15⟩; have H15 := Aside0.mk h15; have HK15 := Aside0.mk (HK14.out.trans hk15); have HRA1 := Aside0.mk (HRA.out w15 h15); clear h15 hk15))
        go_upto_region 21 with (first
          | (go_at_call 9; (with_reducible refine HRA1.out.mono ?_); rintro e w16 ⟨v16, rfl, hr16, hb16⟩; obtain ⟨A16, c16, rfl, _, _⟩ := Kd.R_reads hr16; have HR16 := Aside0.mk hr16; have HB16 := Aside0.mk hb16; have HRB1 := Aside0.mk (HRB.out w16 (H15.out.grow hb16)); clear hr16 hb16)
          | (go_at_call 9; (with_reducible refine HRB1.out.mono ?_); rintro e w17 ⟨v17, rfl, hr17, hb17⟩; obtain ⟨A17, c17, rfl, _, _⟩ := Kd.R_reads hr17; have HBq := Aside0.mk hb17; have HB17 := Aside0.mk (below_step HB16.out hb17); clear hr17 hb17))
        have H17 := Aside0.mk (H15.out.grow HB17.out)
        have HN7 := Aside0.mk (show Calls Try.prog 10 #[cp gc, .int .i64 7] w17 (fun e w' => e = .returned (.int .i64 i) ∧ Below w17.heap.size w17 w') from (next_yes H17.out 7 (by decide)).mono (fun e w' h => ⟨h.1.trans (by rw [HTM.out.n7]), h.2⟩))
        have HWR := Aside0.mk (fun (w' : World) (hb : Below w17.heap.size w17 w') => show Calls Try.prog 18 #[cp gc] w' (fun e w2 => e = .returned (.int .i64 0) ∧ Below w'.heap.size w' w2) from (wrong_is (H17.out.grow hb)).mono (fun e w' h => ⟨h.1.trans (by rw [HTM.out.wrong]), h.2⟩))
        go_upto_region 23 with (first
          | (go_at_call 10; (with_reducible refine HN7.out.mono ?_); rintro e w18 ⟨rfl, hb18⟩; have HB18 := Aside0.mk hb18; have HW18 := Aside0.mk (HWR.out w18 hb18); clear hb18)
          | (go_at_call 18; (with_reducible refine HW18.out.mono ?_); rintro e w19 ⟨rfl, hb19⟩; have HB19 := Aside0.mk (below_step HB18.out hb19); have HA19 := Aside0.mk (alive_is w19); clear hb19)
          | (go_at_call 8; (with_reducible refine HA19.out.mono ?_); rintro e w20 ⟨rfl, hb20⟩; have HB20 := Aside0.mk (below_step HB19.out hb20); clear hb20))
        have H20 := Aside0.mk (H17.out.grow HB20.out)
        have HNX := Aside0.mk (fun (w' : World) (h : St w w' gc gb gp M D') => show Calls Try.prog 10 #[cp gc, .int .i64 2] w' (fun e w2 => e = .returned (.int .i64 (M.bk 2).nx) ∧ Below w'.heap.size w' w2) from next_yes h 2 (by decide))
        have HHR := Aside0.mk (HK15.out.R HR6.out)
        clear HN7 HWR HW18 HA19 HRA1 HRB1 HRA HPW
        have hfr := HTM.out.frm
        have hop := HTM.out.ops
        have HW2 : Aside0 (∀ f ∈ M.pl, f.f0 ≠ wrap64 (wrap64 (M.ops + 1) - M.frm)) := ⟨by
          have e1 : wrap64 (2 * (i : Int) + 1 + 1) = 2 * (i : Int) + 1 + 1 := wrap_in _ (by omega)
          rw [HTM.out.pl, hop, hfr, e1, wrap_in _ (by omega)]
          intro f hf
          rcases List.mem_singleton.1 hf with rfl
          show (1 : Int) ≠ _
          omega⟩
        have HW3 : Aside0 (∀ f ∈ M.pl, f.f0 ≠ wrap64 (wrap64 (wrap64 (M.ops + 1) + 1) - M.frm)) := ⟨by
          have e1 : wrap64 (2 * (i : Int) + 1 + 1) = 2 * (i : Int) + 1 + 1 := wrap_in _ (by omega)
          have e2 : wrap64 (2 * (i : Int) + 1 + 1 + 1) = 2 * (i : Int) + 1 + 1 + 1 := wrap_in _ (by omega)
          rw [HTM.out.pl, hop, hfr, e1, e2, wrap_in _ (by omega)]
          intro f hf
          rcases List.mem_singleton.1 hf with rfl
          show (1 : Int) ≠ _
          omega⟩
        clear hfr hop
        have hE0 : rdE M 2 0 = if ((M.bk 2).pg 0).st = 2 then 5 else 0 := rdE_at HMO.out 2 0 (by decide) (by decide)
        have hEp : rdE M 2 i = if ((M.bk 2).pg i).st = 2 then 5 else 0 := rdE_at HMO.out 2 i (by decide) (by omega)
        cases er with
        | true =>
          rcases HTN.out with rfl | rfl | rfl
          · have hk := HTM.out.k0 rfl
            have hst : ((M.bk 2).pg 0).st ≠ 2 := by
              rw [hk.1, HL.out.st 0 (by decide)]
              split <;> decide
            have hb0 : (rdE M 2 0 == 0) = true := by rw [hE0, if_neg hst]; rfl
            have hLL : rdL M D' 2 0 = rdL m D 2 0 := by
              have h1 : rdL M D' 2 0 = if ((M.bk 2).pg 0).st = 2 then [] else if ((M.bk 2).pg 0).st = 1 then D' 2 0 ++ List.replicate (128 - (D' 2 0).length) 255 else List.replicate 128 255 := rdL_at HMO.out 2 0 (by decide) (by decide)
              have h2 : rdL m D 2 0 = if ((m.bk 2).pg 0).st = 2 then [] else if ((m.bk 2).pg 0).st = 1 then D 2 0 ++ List.replicate (128 - (D 2 0).length) 255 else List.replicate 128 255 := rdL_at HL.out.off 2 0 (by decide) (by decide)
              rw [h1, h2, hk.1, hk.2.1]
            have hnx := hk.2.2
            clear hE0 hEp hk hst
            have HSM : Aside0 (Calls Try.prog 14 #[.slice A6 (rdL m D 2 0).length c6, .slice A16 (rdL M D' 2 0).length c16] w20 fun e w' => e = .returned (.bool true) ∧ Below w20.heap.size w20 w') := ⟨by
              have h3 := (Kd.R_reads' (Kd.R_below (Kd.R_below HHR.out HB17.out) HB20.out)).2.2
              have h4 := (Kd.R_reads' (Kd.R_below HR16.out (below_step HBq.out HB20.out))).2.2
              rw [hLL] at h4 ⊢
              exact same_calls' A6 c6 (rdL m D 2 0) A16 c16 w20 h3 h4⟩
            have HX := Aside0.mk hnx
            have HNX1 := Aside0.mk (fun (w' : World) (hb : Below w20.heap.size w20 w') => show Calls Try.prog 10 #[cp gc, .int .i64 2] w' (fun e w2 => e = .returned (.int .i64 i) ∧ Below w'.heap.size w' w2) from (HNX.out w' (H20.out.grow hb)).mono (fun e w2 h => ⟨h.1.trans (by rw [HX.out]), h.2⟩))
            clear hLL hnx
            go_wp2_with (first
              | (go_at_call 14; (with_reducible refine HSM.out.mono ?_); rintro e w21 ⟨rfl, hb21⟩; have HB21 := Aside0.mk hb21; have HN21 := Aside0.mk (HNX1.out w21 hb21); clear hb21)
              | (go_at_call 10; (with_reducible refine HN21.out.mono ?_); rintro e w22 ⟨rfl, hb22⟩; have HB22 := Aside0.mk (below_step HB21.out hb22); clear hb22))
            go_ret
            exact ⟨rfl, (H20.out.grow HB22.out).below⟩
          · have hk := HTM.out.e1 rfl rfl
            have hb0 : (rdE M 2 0 == 5) = true := by rw [hE0, if_pos (hk.1 0 (by decide))]; rfl
            have hbp : (rdE M 2 i == 5) = true := by rw [hEp, if_pos (hk.1 i (by omega))]; rfl
            have HX := Aside0.mk hk.2
            clear hE0 hEp hk
            have HNX1 := Aside0.mk (show Calls Try.prog 10 #[cp gc, .int .i64 2] w20 (fun e w2 => e = .returned (.int .i64 16) ∧ Below w20.heap.size w20 w2) from (HNX.out w20 H20.out).mono (fun e w2 h => ⟨h.1.trans (by rw [HX.out]), h.2⟩))
            have HPM := Aside0.mk (fun (w' : World) (h : St w w' gc gb gp M D') => show Calls Try.prog 11 #[cp gc, .int .i64 2, .int .i64 0, .slice A l.length c] w' _ from program_perm h HMO.out 2 0 (by decide) (by decide) (.inr (by rw [HX.out]; decide)) A l.length c HLL.out)
            have HER := Aside0.mk (fun (w' : World) (h : St w w' gc gb gp { M with wrong := wrap64 (M.wrong + 1) } D') => show Calls Try.prog 12 #[cp gc, .int .i64 2] w' _ from erase_ok h HMO.out HW2.out 2 (by decide) HTM.out.b2)
            have HPO := Aside0.mk (fun (w' : World) (h : St w w' gc gb gp (({ ({ M with wrong := wrap64 (M.wrong + 1) } : Ch) with ops := wrap64 (M.ops + 1) } : Ch).setBk 2 { clr 0 16 { M.bk 2 with er := wrap64 ((M.bk 2).er + 1) } with nx := 0 }) (clrD D' 2 16)) => show Calls Try.prog 11 #[cp gc, .int .i64 2, .int .i64 0, .slice A l.length c] w' _ from program_ok h HMO.out HW3.out 2 0 (by decide) (by decide) (by rw [setBk_self]; exact HTM.out.b2) (by rw [setBk_self]; rfl) A c l (fun w' hb _ => Kd.C_below HR.out hb) HCC.out HLL.out)
            go_wp2_with (first
              | (go_at_call 10; (with_reducible refine HNX1.out.mono ?_); rintro e w21 ⟨rfl, hb21⟩; have HP21 := Aside0.mk (HPM.out w21 (H20.out.grow hb21)); clear hb21)
              | (go_at_call 11; (with_reducible refine HP21.out.mono ?_); rintro e w22 ⟨rfl, h22, -⟩; have HE22 := Aside0.mk (HER.out w22 h22); clear h22)
              | (go_at_call 12; (with_reducible refine HE22.out.mono ?_); rintro e w23 ⟨rfl, h23, -⟩; have HP23 := Aside0.mk (HPO.out w23 h23); clear h23)
              | (go_at_call 11; (with_reducible refine HP23.out.mono ?_); rintro e w24 ⟨rfl, ⟨v24, h24⟩, -⟩; have H24 := Aside0.mk h24.below; clear h24))
            go_ret
            exact ⟨rfl, H24.out⟩
          · have hk := HTM.out.e2 rfl rfl
            have hb0 : (rdE M 2 0 == 0) = true := by rw [hE0, if_neg (by rw [hk.1]; decide)]; rfl
            have HX := Aside0.mk hk.2
            clear hE0 hEp hk
            have HNX1 := Aside0.mk (show Calls Try.prog 10 #[cp gc, .int .i64 2] w20 (fun e w2 => e = .returned (.int .i64 0) ∧ Below w20.heap.size w20 w2) from (HNX.out w20 H20.out).mono (fun e w2 h => ⟨h.1.trans (by rw [HX.out]), h.2⟩))
            have HPO := Aside0.mk (fun (w' : World) (h : St w w' gc gb gp M D') => show Calls Try.prog 11 #[cp gc, .int .i64 2, .int .i64 0, .slice A l.length c] w' _ from program_ok h HMO.out HW2.out 2 0 (by decide) (by decide) HTM.out.b2 HX.out A c l (fun w' hb _ => Kd.C_below HR.out hb) HCC.out HLL.out)
            go_wp2_with (first
              | (go_at_call 10; (with_reducible refine HNX1.out.mono ?_); rintro e w21 ⟨rfl, hb21⟩; have HP21 := Aside0.mk (HPO.out w21 (H20.out.grow hb21)); clear hb21)
              | (go_at_call 11; (with_reducible refine HP21.out.mono ?_); rintro e w24 ⟨rfl, ⟨v24, h24⟩, -⟩; have H24 := Aside0.mk h24.below; clear h24))
            go_ret
            exact ⟨rfl, H24.out⟩
        | false =>
          rcases HTN.out with rfl | rfl | rfl
          · have hk := HTM.out.k0 rfl
            have hst : ((M.bk 2).pg 0).st ≠ 2 := by
              rw [hk.1, HL.out.st 0 (by decide)]
              split <;> decide
            have hb0 : (rdE M 2 0 == 0) = true := by rw [hE0, if_neg hst]; rfl
            have hLL : rdL M D' 2 0 = rdL m D 2 0 := by
              have h1 : rdL M D' 2 0 = if ((M.bk 2).pg 0).st = 2 then [] else if ((M.bk 2).pg 0).st = 1 then D' 2 0 ++ List.replicate (128 - (D' 2 0).length) 255 else List.replicate 128 255 := rdL_at HMO.out 2 0 (by decide) (by decide)
              have h2 : rdL m D 2 0 = if ((m.bk 2).pg 0).st = 2 then [] else if ((m.bk 2).pg 0).st = 1 then D 2 0 ++ List.replicate (128 - (D 2 0).length) 255 else List.replicate 128 255 := rdL_at HL.out.off 2 0 (by decide) (by decide)
              rw [h1, h2, hk.1, hk.2.1]
            have hnx := hk.2.2
            clear hE0 hEp hk hst
            have HSM : Aside0 (Calls Try.prog 14 #[.slice A6 (rdL m D 2 0).length c6, .slice A16 (rdL M D' 2 0).length c16] w20 fun e w' => e = .returned (.bool true) ∧ Below w20.heap.size w20 w') := ⟨by
              have h3 := (Kd.R_reads' (Kd.R_below (Kd.R_below HHR.out HB17.out) HB20.out)).2.2
              have h4 := (Kd.R_reads' (Kd.R_below HR16.out (below_step HBq.out HB20.out))).2.2
              rw [hLL] at h4 ⊢
              exact same_calls' A6 c6 (rdL m D 2 0) A16 c16 w20 h3 h4⟩
            have HX := Aside0.mk hnx
            have HNX1 := Aside0.mk (fun (w' : World) (hb : Below w20.heap.size w20 w') => show Calls Try.prog 10 #[cp gc, .int .i64 2] w' (fun e w2 => e = .returned (.int .i64 i) ∧ Below w'.heap.size w' w2) from (HNX.out w' (H20.out.grow hb)).mono (fun e w2 h => ⟨h.1.trans (by rw [HX.out]), h.2⟩))
            clear hLL hnx
            go_wp2_with (first
              | (go_at_call 14; (with_reducible refine HSM.out.mono ?_); rintro e w21 ⟨rfl, hb21⟩; have HB21 := Aside0.mk hb21; have HN21 := Aside0.mk (HNX1.out w21 hb21); clear hb21)
              | (go_at_call 10; (with_reducible refine HN21.out.mono ?_); rintro e w22 ⟨rfl, hb22⟩; have HB22 := Aside0.mk (below_step HB21.out hb22); clear hb22))
            go_ret
            exact ⟨rfl, (H20.out.grow HB22.out).below⟩
          · have hk := HTM.out.p1 rfl rfl
            have hbp : (rdE M 2 i == 5) = true := by rw [hEp, if_pos hk.1]; rfl
            have HX := Aside0.mk hk.2
            clear hE0 hEp hk
            have HNX1 := Aside0.mk (show Calls Try.prog 10 #[cp gc, .int .i64 2] w20 (fun e w2 => e = .returned (.int .i64 ((i : Int) + 1)) ∧ Below w20.heap.size w20 w2) from (HNX.out w20 H20.out).mono (fun e w2 h => ⟨h.1.trans (by rw [HX.out]), h.2⟩))
            have hi9 : (i : Int) + 1 ≤ 9223372036854775807 := by omega
            go_wp2_with (first
              | (go_at_call 10; (with_reducible refine HNX1.out.mono ?_); rintro e w21 ⟨rfl, hb21⟩; have H21 := Aside0.mk (H20.out.grow hb21).below; clear hb21))
            go_ret
            exact ⟨rfl, H21.out⟩
          · have hk := HTM.out.p2 rfl rfl
            have hbp : (rdE M 2 i == 0) = true := by rw [hEp, if_neg (by rw [hk.1]; decide)]; rfl
            have HLP : Aside0 (rdL M D' 2 i = l ++ List.replicate (128 - l.length) 255) := ⟨by
              have h1 : rdL M D' 2 i = if ((M.bk 2).pg i).st = 2 then [] else if ((M.bk 2).pg i).st = 1 then D' 2 i ++ List.replicate (128 - (D' 2 i).length) 255 else List.replicate 128 255 := rdL_at HMO.out 2 i (by decide) (by omega)
              rw [h1, if_neg (by rw [hk.1]; decide), if_pos hk.1, hk.2.1]⟩
            have HX := Aside0.mk hk.2.2
            clear hE0 hEp hk
            have HRB2 := Aside0.mk (HRB.out w20 H20.out)
            go_upto_region 32 with (first
              | (go_at_call 9; (with_reducible refine HRB2.out.mono ?_); rintro e w21 ⟨v21, rfl, hr21, hb21⟩; have HR21 := Aside0.mk hr21; have HB21 := Aside0.mk hb21; clear hr21 hb21))
            have hr21 := HR21.out
            rw [HLP.out] at hr21
            have hln : (l ++ List.replicate (128 - l.length) (255 : Int)).length = 128 := by
              have := HLL.out
              simp
              omega
            obtain ⟨g5, c5, e5, _, _, _⟩ := Kd.R_form hr21 (by rw [hln]; decide)
            rw [hln] at e5
            subst e5
            obtain ⟨hq9, hc5, hC5⟩ := Kd.R_reads' hr21
            have hC6 : Kd.C (Kd.int .u8) w21 (some ⟨g5, 0, none⟩) (l ++ List.replicate (128 - l.length) (255 : Int)).length (l ++ List.replicate (128 - l.length) (255 : Int)) := hC5
            have hT5 := Kd.C_take (m := l.length) hC6 (by rw [hln]; exact HLL.out)
            rw [List.take_left] at hT5
            have HSM := Aside0.mk (fun (w' : World) (hb : Below w21.heap.size w21 w') => same_calls' (some ⟨g5, 0, none⟩) c5 l A c w' (Kd.C_below hT5 hb) (Kd.C_below HR.out (H20.out.grow (below_step HB21.out hb)).below))
            have HNX1 := Aside0.mk (show Calls Try.prog 10 #[cp gc, .int .i64 2] w21 (fun e w2 => e = .returned (.int .i64 ((i : Int) + 1)) ∧ Below w21.heap.size w21 w2) from (HNX.out w21 (H20.out.grow HB21.out)).mono (fun e w2 h => ⟨h.1.trans (by rw [HX.out]), h.2⟩))
            have hi9 : (i : Int) + 1 ≤ 9223372036854775807 := by omega
            have hl5 : l.length ≤ c5 := by
              have := HLL.out
              omega
            clear hr21 hC5 hC6 hT5 hln hq9
            go_wp2_with (first
              | (go_at_call 10; (with_reducible refine HNX1.out.mono ?_); rintro e w22 ⟨rfl, hb22⟩; have HS22 := Aside0.mk (HSM.out w22 hb22); have HB22 := Aside0.mk hb22; clear hb22)
              | (go_at_call 14; (with_reducible refine HS22.out.mono ?_); rintro e w23 ⟨rfl, hb23⟩; have HB23 := Aside0.mk (below_step HB22.out hb23); clear hb23))
            go_ret
            exact ⟨rfl, (H20.out.grow (below_step HB21.out HB23.out)).below⟩
end Go.Proofs.Ytnhlfbkpohidpaa.PAll
