import Derived.Test.YtdlimghdimkadaaDoorCd
namespace Go.Proofs.YtdlimghdimkadaaDoor.PAll
open Go.RowKit Go.Proofs.YtdlimghdimkadaaDoorW.PrintWords Go.Proofs.YtdlimghdimkadaaDoorW.PrintLast Go.Proofs.YtdlimghdimkadaaDoorW.PrintMore
set_option linter.unusedSimpArgs false
set_option linter.unusedVariables false
attribute [local go_sem] max2_int min2_int max_two min_two max_three min_three max_four min_four
variable {w0 W : World} {gc gb : Nat} {gp : Nat → Nat} {m : Ch} {D : Nat → Nat → List Int}
/-- What Program says where its arguments are in order: no fault, a failure, a cut. -/
abbrev tgt (m : Ch) : Int := wrap64 (wrap64 (m.ops + 1) - m.frm)
set_option maxRecDepth 100000 in
set_option maxHeartbeats 8000000 in
theorem program_ok (h : St w0 W gc gb gp m D) (hoff : m.off = false) (hplan : hitOf m.pl (tgt m) = none) (n p : Nat) (hn : n < m.g.B) (hp : p < m.g.P) (hbad : (m.bk n).bad = false) (hnx : (m.bk n).nx = p) (A : Option Addr) (c : Nat) (l : List Int) (hr : ∀ w', Below w0.heap.size w0 w' → Keeps W w' → Kd.C kB w' A l.length l) (hc : l.length ≤ c) (hl : l.length ≤ m.g.Z) :
    Calls Tryd.prog 18 #[cp gc, .int .i64 n, .int .i64 p, .slice A l.length c] W fun e w' => e = .returned (.int .i64 0) ∧ (∃ v : Value, St w0 w' gc gb gp (({ m with ops := wrap64 (m.ops + 1) } : Ch).setBk n { ((m.bk n).setPg p ⟨1, v⟩) with nx := wrap64 ((p : Int) + 1) }) (updD D n p l)) ∧ Keeps W w' := by
  have HRY := Aside0.mk (ready_yes h hoff n hn)
  have H := Aside0.mk h
  have HPL := Aside0.mk hplan
  have HBD := Aside0.mk hbad
  have HNX := Aside0.mk hnx
  have HRD := Aside0.mk hr
  have HCC := Aside0.mk hc
  have hzz := h.gok.2.2
  have HLZ := Aside0.mk (show l.length ≤ 140737488355328 by omega)
  clear hzz
  have d1 : decide ((p : Int) < 0) = false := decide_eq_false (by omega)
  have d2 : decide ((m.g.P : Int) ≤ (p : Int)) = false := decide_eq_false (by omega)
  have d3 : decide (m.g.P ≤ p) = false := decide_eq_false (by omega)
  have d4 : decide ((m.g.Z : Int) < (l.length : Int)) = false := decide_eq_false (by omega)
  have d5 : decide (m.g.Z < l.length) = false := decide_eq_false (by omega)
  have hqp : ((p : Int) < (m.g.P : Int)) = True := eq_true (by omega)
  have hqp2 : (p < m.g.P) = True := eq_true hp
  have hu44 := Tryd.underlying71
  have hu65 := Tryd.underlying88
  clear h hoff hplan hbad hnx hr hc
  go_enter Tryd.func18, Tryd.ntmps18
  go_upto_region 9 with (first
    | (go_at_call 33; (with_reducible refine HRY.out.mono ?_); rintro e w1 ⟨rfl, hb1⟩; have h1 := H.out.grow hb1; have H1 := Aside0.mk h1; have HB1 := Aside0.mk hb1; obtain ⟨z0, z1, z2, z3⟩ := h1.cellB n hn; rw [HBD.out] at z0; rw [HNX.out] at z3; have y2 : w1.cell? ⟨gc, 2, none⟩ = some (.int .i64 m.g.Z) := h1.cellC 2; clear hb1 h1))
  clear z0 z1 z2 z3 y2
  have hbn := begin_any H1.out
  rw [show hitOf m.pl (wrap64 (wrap64 (m.ops + 1) - m.frm)) = none from HPL.out, show bgV none = .tuple #[.agg #[.int .i64 0, .int .i64 0, .int .i64 0], .bool false] from rfl] at hbn
  have HBN := Aside0.mk hbn
  clear hbn
  go_upto_region 21 with (first
    | (go_at_call 34; (with_reducible refine HBN.out.mono ?_); rintro e w2 ⟨rfl, h2, hk2⟩; have H2 := Aside0.mk h2; have HK2 := Aside0.mk ((Keeps.of_below HB1.out).trans hk2); clear h2 hk2))
  generalize hW : w2.alloc (.cells #[.int .i64 0, .int .i64 0, .int .i64 0] 71) = W3
  have hb3 : Below w2.heap.size w2 W3 := by rw [← hW]; exact below_alloc (Below.refl _ _) _
  have h3 := H2.out.grow hb3
  have HK3 := Aside0.mk (HK2.out.trans (Keeps.of_below hb3))
  clear hW hb3
  obtain ⟨z0, z1, z2, z3⟩ := h3.cellB n hn
  obtain ⟨q0, q1⟩ := h3.cellP n hn p hp
  have fq0 := blk_frozen (h3.p n hn) (p * 2)
  have fq1 := blk_frozen (h3.p n hn) (p * 2 + 1)
  have H3 := Aside0.mk h3
  clear h3
  go_upto_region 22 with (fail)
  generalize hW : (W3.setCell ⟨gp n, p * 2, none⟩ (.int .i64 1)).setCell ⟨gp n, p * 2 + 1, none⟩ (.slice none 0 0) = W4
  have h4 := H3.out.page n hn p hp 1 (.slice none 0 0) [] (Kd.R_nil _ _ _ _ _)
  have hk4 := (HK3.out.set (H3.out.p n hn) (by decide) (p * 2) (.int .i64 1)).set (blk_set (H3.out.p n hn) (p * 2) (.int .i64 1)) (by decide) (p * 2 + 1) (.slice none 0 0)
  rw [hW] at h4 hk4
  clear z0 z1 z2 z3 q0 q1 fq0 fq1
  have H4 := Aside0.mk h4
  have HK4 := Aside0.mk hk4
  clear hW h4 hk4
  go_upto_region 23 with (fail)
  refine Rel.tail (m := 9) [(0, 96, .inl ?r1v0), (1, 97, .inl ?r1v1), (2, 98, .inl ?r1v2), (3, 99, .inl ?r1v3), (4, 100, .inl ?r1v4), (5, 101, .inl ?r1v5), (6, 102, .inr (fun v w' => Kd.R kB 5 w' w0.heap.size (fun _ => True) v l)), (7, 103, .inl ?r1v7), (8, 104, .inl ?r1v8)] (fun w' => Below W4.heap.size W4 w') (fun w' w'' => Below w'.heap.size w' w'') (by rfl) rfl (by kernel_rfl) (by kernel_rfl) (by kernel_rfl) ?r1S (Rel.stable_inl (Rel.stable_inl (Rel.stable_inl (Rel.stable_inl (Rel.stable_inl (Rel.stable_inl (Rel.stable_inr (fun v w w' hb h => Kd.R_below h hb) (Rel.stable_inl (Rel.stable_inl Rel.stable_nil))))))))) ?r1steps ?r1okv ?r1hlt ?r1fin
  case r1S => exact below_drew (Below.refl _ _)
  case r1steps =>
    refine Rel.from_some 0 rfl rfl (fun a wq hS hK K hC => ?_) ?_
    · refine Reg.step_on (by rfl) ?_
      have e9 := hK.off 9 _ rfl rfl
      clear hK
      go_simp
      exact hC _ hS (Below.refl _ _)
    refine Rel.from_some 1 rfl rfl (fun a wq hS hK K hC => ?_) ?_
    · refine Reg.step_on (by rfl) ?_
      have e96 := hK.slot 0 _ _ _ rfl (by kernel_rfl)
      clear hK
      go_simp
      exact hC _ hS (Below.refl _ _)
    refine Rel.from_some 2 rfl rfl (fun a wq hS hK K hC => ?_) ?_
    · refine Reg.step_on (by rfl) ?_
      have e97 := hK.slot 1 _ _ _ rfl (by kernel_rfl)
      clear hK
      go_simp
      exact hC _ hS (Below.refl _ _)
    refine Rel.from_some 3 rfl rfl (fun a wq hS hK K hC => ?_) ?_
    · refine Reg.step_on (by rfl) ?_
      have e98 := hK.slot 2 _ _ _ rfl (by kernel_rfl)
      have zz := ((H4.out.grow hS).cellB n hn).2.2.1
      change _ = some (Value.slice (some ⟨gp n, 0, none⟩) m.g.P m.g.P) at zz
      clear hK
      go_simp
      exact hC _ hS (Below.refl _ _)
    refine Rel.from_some 4 rfl rfl (fun a wq hS hK K hC => ?_) ?_
    · refine Reg.step_on (by rfl) ?_
      have e2 := hK.off 2 _ rfl rfl
      clear hK
      go_simp
      exact hC _ hS (Below.refl _ _)
    refine Rel.from_some 5 rfl rfl (fun a wq hS hK K hC => ?_) ?_
    · refine Reg.step_on (by rfl) ?_
      have e3 := hK.off 3 _ rfl rfl
      clear hK
      go_simp
      exact hC _ hS (Below.refl _ _)
    refine Rel.from_rel 6 rfl rfl (fun a wq hS hK K hC => ?_) ?_
    · refine Reg.step_on (by rfl) ?_
      have e101 := hK.slot 5 _ _ _ rfl (by kernel_rfl)
      clear hK
      go_simp
      go_at_call 35; (with_reducible refine (clone_bytes A c l wq (HRD.out wq (H4.out.grow hS).below (HK4.out.trans (Keeps.of_below hS))) HCC.out ?cb).mono ?_)
      case cb => exact HLZ.out
      rintro e w' ⟨v, rfl, ho, hb⟩
      exact hC v w' (below_step hS hb) hb (Kd.R_lower ho (below_size (H4.out.grow hS).below))
    refine Rel.from_some 7 rfl rfl (fun a wq hS hK K hC => ?_) ?_
    · refine Reg.step_on (by rfl) ?_
      have e99 := hK.slot 3 _ _ _ rfl (by kernel_rfl)
      have e100 := hK.slot 4 _ _ _ rfl (by kernel_rfl)
      clear hK
      go_simp
      exact hC _ hS (Below.refl _ _)
    refine Rel.from_some 8 rfl rfl (fun a wq hS hK K hC => ?_) ?_
    · refine Reg.step_on (by rfl) ?_
      have e103 := hK.slot 7 _ _ _ rfl (by kernel_rfl)
      clear hK
      go_simp
      exact hC _ hS (Below.refl _ _)
    exact Rel.from_nil
  case r1okv => rfl
  case r1hlt => rfl
  case r1fin =>
    intro U wz hS hU
    have q6 := hU 6 _ _ _ rfl
    clear hU
    simp only [Rel.inst, Nat.zero_add, Nat.reduceAdd, Reg.putV, List.foldl_cons, List.foldl_nil, Act.put, List.setIfInBounds_toArray, List.set_cons_zero, List.set_cons_succ]
    have h5 := H4.out.grow hS
    have HQ := Aside0.mk q6
    obtain ⟨r0, r1⟩ := h5.cellP n hn p hp
    have fr1 := blk_frozen (h5.p n hn) (p * 2 + 1)
    have H5 := Aside0.mk h5
    have HK5 := Aside0.mk (HK4.out.trans (Keeps.of_below hS))
    obtain ⟨A6, c6, e6⟩ := Kd.R_slice q6
    rw [e6] at HQ ⊢
    clear hS h5 q6 e6
    refine Rel.tail_cons (fun K hK => ?_)
    refine Reg.step_on (by rfl) ?_
    go_simp
    refine hK _ _ ?_
    clear hK r0 r1 fr1
    refine Rel.tail_nil ?_
    have h6 := H5.out.pageD n hn p hp (.slice A6 l.length c6) l HQ.out
    have hk6 := HK5.out.set (H5.out.p n hn) (by decide) (p * 2 + 1) (.slice A6 l.length c6)
    rw [setBk_self, setBk_twice, setPg_self, setPg_twice, updD_twice] at h6
    generalize wz.setCell ⟨gp n, p * 2 + 1, none⟩ (.slice A6 l.length c6) = W6 at h6 hk6 ⊢
    obtain ⟨z0, z1, z2, z3⟩ := h6.cellB n hn
    rw [setBk_self] at z3
    change W6.cell? ⟨gb, n * 4 + 3, none⟩ = some (.int .i64 (m.bk n).nx) at z3
    rw [HNX.out] at z3
    have f3 := blk_frozen h6.b (n * 4 + 3)
    have H6 := Aside0.mk h6
    have HK6 := Aside0.mk hk6
    clear h6 hk6 z0 z1 z2
    go_wp2
    go_ret
    have h7 := H6.out.nx n (wrap64 ((p : Int) + 1))
    rw [setBk_self, setBk_twice] at h7
    exact ⟨rfl, ⟨_, h7⟩, HK6.out.set H6.out.b (by decide) _ _⟩
set_option maxRecDepth 100000 in
set_option maxHeartbeats 8000000 in
theorem program_fail (h : St w0 W gc gb gp m D) (hoff : m.off = false) (f : F3) (hplan : hitOf m.pl (tgt m) = some f) (hf1 : f.f1 = 2) (n p : Nat) (hn : n < m.g.B) (hp : p < m.g.P) (hbad : (m.bk n).bad = false) (hnx : (m.bk n).nx = p) (A : Option Addr) (c : Nat) (l : List Int) (hr : ∀ w', Below w0.heap.size w0 w' → Keeps W w' → Kd.C kB w' A l.length l) (hc : l.length ≤ c) (hl : l.length ≤ m.g.Z) :
    Calls Tryd.prog 18 #[cp gc, .int .i64 n, .int .i64 p, .slice A l.length c] W fun e w' => e = .returned (.int .i64 5) ∧ St w0 w' gc gb gp (({ m with ops := wrap64 (m.ops + 1) } : Ch).setBk n { ((m.bk n).setPg p ⟨2, .slice none 0 0⟩) with nx := wrap64 ((p : Int) + 1) }) (updD D n p []) ∧ Keeps W w' := by
  have HRY := Aside0.mk (ready_yes h hoff n hn)
  have H := Aside0.mk h
  have HPL := Aside0.mk hplan
  have HBD := Aside0.mk hbad
  have HNX := Aside0.mk hnx
  have HRD := Aside0.mk hr
  have HCC := Aside0.mk hc
  have hzz := h.gok.2.2
  have HLZ := Aside0.mk (show l.length ≤ 140737488355328 by omega)
  clear hzz
  have d1 : decide ((p : Int) < 0) = false := decide_eq_false (by omega)
  have d2 : decide ((m.g.P : Int) ≤ (p : Int)) = false := decide_eq_false (by omega)
  have d3 : decide (m.g.P ≤ p) = false := decide_eq_false (by omega)
  have d4 : decide ((m.g.Z : Int) < (l.length : Int)) = false := decide_eq_false (by omega)
  have d5 : decide (m.g.Z < l.length) = false := decide_eq_false (by omega)
  have hqp : ((p : Int) < (m.g.P : Int)) = True := eq_true (by omega)
  have hqp2 : (p < m.g.P) = True := eq_true hp
  have hu44 := Tryd.underlying71
  have hu65 := Tryd.underlying88
  have HF1 := Aside0.mk hf1
  clear h hoff hplan hbad hnx hr hc hf1
  go_enter Tryd.func18, Tryd.ntmps18
  go_upto_region 9 with (first
    | (go_at_call 33; (with_reducible refine HRY.out.mono ?_); rintro e w1 ⟨rfl, hb1⟩; have h1 := H.out.grow hb1; have H1 := Aside0.mk h1; have HB1 := Aside0.mk hb1; obtain ⟨z0, z1, z2, z3⟩ := h1.cellB n hn; rw [HBD.out] at z0; rw [HNX.out] at z3; have y2 : w1.cell? ⟨gc, 2, none⟩ = some (.int .i64 m.g.Z) := h1.cellC 2; clear hb1 h1))
  clear z0 z1 z2 z3 y2
  have hbn := begin_any H1.out
  rw [show hitOf m.pl (wrap64 (wrap64 (m.ops + 1) - m.frm)) = some f from HPL.out, show bgV (some f) = .tuple #[.agg #[.int .i64 f.f0, .int .i64 f.f1, .int .i64 f.f2], .bool true] from rfl] at hbn
  have HBN := Aside0.mk hbn
  clear hbn
  go_upto_region 10 with (first
    | (go_at_call 34; (with_reducible refine HBN.out.mono ?_); rintro e w2 ⟨rfl, h2, hk2⟩; have H2 := Aside0.mk h2; have HK2 := Aside0.mk ((Keeps.of_below HB1.out).trans hk2); clear h2 hk2))
  go_upto_block 0 with (fail)
  generalize hW : w2.alloc (.cells #[.int .i64 f.f0, .int .i64 f.f1, .int .i64 f.f2] 71) = W3
  have hb3 : Below w2.heap.size w2 W3 := by rw [← hW]; exact below_alloc (Below.refl _ _) _
  have hx3 : W3.heap[w2.heap.size]? = some (.cells #[.int .i64 f.f0, .int .i64 f.f1, .int .i64 f.f2] 71 (0, 0)) := by rw [← hW]; exact new_blk _ _ _
  rw [HF1.out] at hx3
  have h3 := H2.out.grow hb3
  have x1 := Joins.cell_of_block hx3 1
  have HK3 := Aside0.mk (HK2.out.trans (Keeps.of_below hb3))
  clear hW hb3 hx3
  obtain ⟨z0, z1, z2, z3⟩ := h3.cellB n hn
  obtain ⟨q0, q1⟩ := h3.cellP n hn p hp
  have fq0 := blk_frozen (h3.p n hn) (p * 2)
  have fq1 := blk_frozen (h3.p n hn) (p * 2 + 1)
  have H3 := Aside0.mk h3
  clear h3
  go_upto_region 22 with (fail)
  generalize hW : (W3.setCell ⟨gp n, p * 2, none⟩ (.int .i64 2)).setCell ⟨gp n, p * 2 + 1, none⟩ (.slice none 0 0) = W4
  have h4 := H3.out.page n hn p hp 2 (.slice none 0 0) [] (Kd.R_nil _ _ _ _ _)
  have hk4 := (HK3.out.set (H3.out.p n hn) (by decide) (p * 2) (.int .i64 2)).set (blk_set (H3.out.p n hn) (p * 2) (.int .i64 2)) (by decide) (p * 2 + 1) (.slice none 0 0)
  rw [hW] at h4 hk4
  clear z0 z1 z2 z3 q0 q1 fq0 fq1 x1
  have z3 := (h4.cellB n hn).2.2.2
  rw [setBk_self] at z3
  change W4.cell? ⟨gb, n * 4 + 3, none⟩ = some (.int .i64 (m.bk n).nx) at z3
  rw [HNX.out] at z3
  have f3 := blk_frozen h4.b (n * 4 + 3)
  have H4 := Aside0.mk h4
  have HK4 := Aside0.mk hk4
  clear hW h4 hk4
  go_wp2
  go_ret
  have h7 := H4.out.nx n (wrap64 ((p : Int) + 1))
  rw [setBk_self, setBk_twice] at h7
  exact ⟨rfl, h7, HK4.out.set H4.out.b (by decide) _ _⟩
set_option maxRecDepth 100000 in
set_option maxHeartbeats 8000000 in
theorem program_cut0 (h : St w0 W gc gb gp m D) (hoff : m.off = false) (f : F3) (hplan : hitOf m.pl (tgt m) = some f) (hf1 : f.f1 ≠ 2) (hf2 : f.f2 = 0) (n p : Nat) (hn : n < m.g.B) (hp : p < m.g.P) (hbad : (m.bk n).bad = false) (hnx : (m.bk n).nx = p) (A : Option Addr) (c : Nat) (l : List Int) (hr : ∀ w', Below w0.heap.size w0 w' → Keeps W w' → Kd.C kB w' A l.length l) (hc : l.length ≤ c) (hl : l.length ≤ m.g.Z) :
    Calls Tryd.prog 18 #[cp gc, .int .i64 n, .int .i64 p, .slice A l.length c] W fun e w' => e = .returned (.int .i64 6) ∧ St w0 w' gc gb gp ({ m with ops := wrap64 (m.ops + 1), off := true } : Ch) D ∧ Keeps W w' := by
  have HRY := Aside0.mk (ready_yes h hoff n hn)
  have H := Aside0.mk h
  have HPL := Aside0.mk hplan
  have HBD := Aside0.mk hbad
  have HNX := Aside0.mk hnx
  have HRD := Aside0.mk hr
  have HCC := Aside0.mk hc
  have hzz := h.gok.2.2
  have HLZ := Aside0.mk (show l.length ≤ 140737488355328 by omega)
  clear hzz
  have d1 : decide ((p : Int) < 0) = false := decide_eq_false (by omega)
  have d2 : decide ((m.g.P : Int) ≤ (p : Int)) = false := decide_eq_false (by omega)
  have d3 : decide (m.g.P ≤ p) = false := decide_eq_false (by omega)
  have d4 : decide ((m.g.Z : Int) < (l.length : Int)) = false := decide_eq_false (by omega)
  have d5 : decide (m.g.Z < l.length) = false := decide_eq_false (by omega)
  have hqp : ((p : Int) < (m.g.P : Int)) = True := eq_true (by omega)
  have hqp2 : (p < m.g.P) = True := eq_true hp
  have hu44 := Tryd.underlying71
  have hu65 := Tryd.underlying88
  have HF1 := Aside0.mk hf1
  have e1 : (f.f1 == (2 : Int)) = false := by simp only [beq_eq_false_iff_ne]; exact hf1
  have HF2 := Aside0.mk hf2
  clear h hoff hplan hbad hnx hr hc hf1 hf2
  go_enter Tryd.func18, Tryd.ntmps18
  go_upto_region 9 with (first
    | (go_at_call 33; (with_reducible refine HRY.out.mono ?_); rintro e w1 ⟨rfl, hb1⟩; have h1 := H.out.grow hb1; have H1 := Aside0.mk h1; have HB1 := Aside0.mk hb1; obtain ⟨z0, z1, z2, z3⟩ := h1.cellB n hn; rw [HBD.out] at z0; rw [HNX.out] at z3; have y2 : w1.cell? ⟨gc, 2, none⟩ = some (.int .i64 m.g.Z) := h1.cellC 2; clear hb1 h1))
  clear z0 z1 z2 z3 y2
  have hbn := begin_any H1.out
  rw [show hitOf m.pl (wrap64 (wrap64 (m.ops + 1) - m.frm)) = some f from HPL.out, show bgV (some f) = .tuple #[.agg #[.int .i64 f.f0, .int .i64 f.f1, .int .i64 f.f2], .bool true] from rfl] at hbn
  have HBN := Aside0.mk hbn
  clear hbn
  go_upto_region 10 with (first
    | (go_at_call 34; (with_reducible refine HBN.out.mono ?_); rintro e w2 ⟨rfl, h2, hk2⟩; have H2 := Aside0.mk h2; have HK2 := Aside0.mk ((Keeps.of_below HB1.out).trans hk2); clear h2 hk2))
  go_upto_block 0 with (fail)
  generalize hW : w2.alloc (.cells #[.int .i64 f.f0, .int .i64 f.f1, .int .i64 f.f2] 71) = W2a
  have hb3a : Below w2.heap.size w2 W2a := by rw [← hW]; exact below_alloc (Below.refl _ _) _
  have hx3 : W2a.heap[w2.heap.size]? = some (.cells #[.int .i64 f.f0, .int .i64 f.f1, .int .i64 f.f2] 71 (0, 0)) := by rw [← hW]; exact new_blk _ _ _
  rw [HF2.out] at hx3
  have h3a := H2.out.grow hb3a
  have x1 := Joins.cell_of_block hx3 1
  have fo := blk_frozen h3a.c 7
  have co := h3a.cellC 7
  have H3a := Aside0.mk h3a
  have HX3 := Aside0.mk hx3
  have HK3a := Aside0.mk (HK2.out.trans (Keeps.of_below hb3a))
  clear hW hb3a h3a hx3
  go_upto_region 12 with (fail)
  generalize hW : W2a.setCell ⟨gc, 7, none⟩ (.bool true) = W3
  have h3 : St w0 W3 gc gb gp { m with ops := wrap64 (m.ops + 1), off := true } D := by rw [← hW]; exact H3a.out.setC 7 _ rfl rfl rfl H3a.out.pln
  have hk3 : Keeps W W3 := by rw [← hW]; exact HK3a.out.set H3a.out.c (by decide) _ _
  have hx3 : W3.heap[w2.heap.size]? = some (.cells #[.int .i64 f.f0, .int .i64 f.f1, .int .i64 0] 71 (0, 0)) := by rw [← hW]; exact blk_far HX3.out (ne_of_type HX3.out H3a.out.c (by decide)) _
  have x2 := Joins.cell_of_block hx3 2
  have HK3 := Aside0.mk hk3
  clear hW hk3 hx3 x1 fo co
  have H3 := Aside0.mk h3
  clear h3
  go_wp2
  go_ret
  exact ⟨rfl, H3.out, HK3.out⟩
set_option maxRecDepth 100000 in
set_option maxHeartbeats 8000000 in
theorem program_cut1 (h : St w0 W gc gb gp m D) (hoff : m.off = false) (f : F3) (hplan : hitOf m.pl (tgt m) = some f) (hf1 : f.f1 ≠ 2) (hf2 : f.f2 = 1) (n p : Nat) (hn : n < m.g.B) (hp : p < m.g.P) (hbad : (m.bk n).bad = false) (hnx : (m.bk n).nx = p) (A : Option Addr) (c : Nat) (l : List Int) (hr : ∀ w', Below w0.heap.size w0 w' → Keeps W w' → Kd.C kB w' A l.length l) (hc : l.length ≤ c) (hl : l.length ≤ m.g.Z) :
    Calls Tryd.prog 18 #[cp gc, .int .i64 n, .int .i64 p, .slice A l.length c] W fun e w' => e = .returned (.int .i64 6) ∧ St w0 w' gc gb gp (({ m with ops := wrap64 (m.ops + 1), off := true } : Ch).setBk n { ((m.bk n).setPg p ⟨2, .slice none 0 0⟩) with nx := wrap64 ((p : Int) + 1) }) (updD D n p []) ∧ Keeps W w' := by
  have HRY := Aside0.mk (ready_yes h hoff n hn)
  have H := Aside0.mk h
  have HPL := Aside0.mk hplan
  have HBD := Aside0.mk hbad
  have HNX := Aside0.mk hnx
  have HRD := Aside0.mk hr
  have HCC := Aside0.mk hc
  have hzz := h.gok.2.2
  have HLZ := Aside0.mk (show l.length ≤ 140737488355328 by omega)
  clear hzz
  have d1 : decide ((p : Int) < 0) = false := decide_eq_false (by omega)
  have d2 : decide ((m.g.P : Int) ≤ (p : Int)) = false := decide_eq_false (by omega)
  have d3 : decide (m.g.P ≤ p) = false := decide_eq_false (by omega)
  have d4 : decide ((m.g.Z : Int) < (l.length : Int)) = false := decide_eq_false (by omega)
  have d5 : decide (m.g.Z < l.length) = false := decide_eq_false (by omega)
  have hqp : ((p : Int) < (m.g.P : Int)) = True := eq_true (by omega)
  have hqp2 : (p < m.g.P) = True := eq_true hp
  have hu44 := Tryd.underlying71
  have hu65 := Tryd.underlying88
  have HF1 := Aside0.mk hf1
  have e1 : (f.f1 == (2 : Int)) = false := by simp only [beq_eq_false_iff_ne]; exact hf1
  have HF2 := Aside0.mk hf2
  clear h hoff hplan hbad hnx hr hc hf1 hf2
  go_enter Tryd.func18, Tryd.ntmps18
  go_upto_region 9 with (first
    | (go_at_call 33; (with_reducible refine HRY.out.mono ?_); rintro e w1 ⟨rfl, hb1⟩; have h1 := H.out.grow hb1; have H1 := Aside0.mk h1; have HB1 := Aside0.mk hb1; obtain ⟨z0, z1, z2, z3⟩ := h1.cellB n hn; rw [HBD.out] at z0; rw [HNX.out] at z3; have y2 : w1.cell? ⟨gc, 2, none⟩ = some (.int .i64 m.g.Z) := h1.cellC 2; clear hb1 h1))
  clear z0 z1 z2 z3 y2
  have hbn := begin_any H1.out
  rw [show hitOf m.pl (wrap64 (wrap64 (m.ops + 1) - m.frm)) = some f from HPL.out, show bgV (some f) = .tuple #[.agg #[.int .i64 f.f0, .int .i64 f.f1, .int .i64 f.f2], .bool true] from rfl] at hbn
  have HBN := Aside0.mk hbn
  clear hbn
  go_upto_region 10 with (first
    | (go_at_call 34; (with_reducible refine HBN.out.mono ?_); rintro e w2 ⟨rfl, h2, hk2⟩; have H2 := Aside0.mk h2; have HK2 := Aside0.mk ((Keeps.of_below HB1.out).trans hk2); clear h2 hk2))
  go_upto_block 0 with (fail)
  generalize hW : w2.alloc (.cells #[.int .i64 f.f0, .int .i64 f.f1, .int .i64 f.f2] 71) = W2a
  have hb3a : Below w2.heap.size w2 W2a := by rw [← hW]; exact below_alloc (Below.refl _ _) _
  have hx3 : W2a.heap[w2.heap.size]? = some (.cells #[.int .i64 f.f0, .int .i64 f.f1, .int .i64 f.f2] 71 (0, 0)) := by rw [← hW]; exact new_blk _ _ _
  rw [HF2.out] at hx3
  have h3a := H2.out.grow hb3a
  have x1 := Joins.cell_of_block hx3 1
  have fo := blk_frozen h3a.c 7
  have co := h3a.cellC 7
  have H3a := Aside0.mk h3a
  have HX3 := Aside0.mk hx3
  have HK3a := Aside0.mk (HK2.out.trans (Keeps.of_below hb3a))
  clear hW hb3a h3a hx3
  go_upto_region 12 with (fail)
  generalize hW : W2a.setCell ⟨gc, 7, none⟩ (.bool true) = W3
  have h3 : St w0 W3 gc gb gp { m with ops := wrap64 (m.ops + 1), off := true } D := by rw [← hW]; exact H3a.out.setC 7 _ rfl rfl rfl H3a.out.pln
  have hk3 : Keeps W W3 := by rw [← hW]; exact HK3a.out.set H3a.out.c (by decide) _ _
  have hx3 : W3.heap[w2.heap.size]? = some (.cells #[.int .i64 f.f0, .int .i64 f.f1, .int .i64 1] 71 (0, 0)) := by rw [← hW]; exact blk_far HX3.out (ne_of_type HX3.out H3a.out.c (by decide)) _
  have x2 := Joins.cell_of_block hx3 2
  have HK3 := Aside0.mk hk3
  clear hW hk3 hx3 x1 fo co
  obtain ⟨z0, z1, z2, z3⟩ := h3.cellB n hn
  obtain ⟨q0, q1⟩ := h3.cellP n hn p hp
  have fq0 := blk_frozen (h3.p n hn) (p * 2)
  have fq1 := blk_frozen (h3.p n hn) (p * 2 + 1)
  have H3 := Aside0.mk h3
  clear h3
  go_upto_region 22 with (fail)
  generalize hW : (W3.setCell ⟨gp n, p * 2, none⟩ (.int .i64 2)).setCell ⟨gp n, p * 2 + 1, none⟩ (.slice none 0 0) = W4
  have h4 := H3.out.page n hn p hp 2 (.slice none 0 0) [] (Kd.R_nil _ _ _ _ _)
  have hk4 := (HK3.out.set (H3.out.p n hn) (by decide) (p * 2) (.int .i64 2)).set (blk_set (H3.out.p n hn) (p * 2) (.int .i64 2)) (by decide) (p * 2 + 1) (.slice none 0 0)
  rw [hW] at h4 hk4
  clear z0 z1 z2 z3 q0 q1 fq0 fq1 x2
  have z3 := (h4.cellB n hn).2.2.2
  rw [setBk_self] at z3
  change W4.cell? ⟨gb, n * 4 + 3, none⟩ = some (.int .i64 (m.bk n).nx) at z3
  rw [HNX.out] at z3
  have f3 := blk_frozen h4.b (n * 4 + 3)
  have H4 := Aside0.mk h4
  have HK4 := Aside0.mk hk4
  clear hW h4 hk4
  go_wp2
  go_ret
  have h7 := H4.out.nx n (wrap64 ((p : Int) + 1))
  rw [setBk_self, setBk_twice] at h7
  exact ⟨rfl, h7, HK4.out.set H4.out.b (by decide) _ _⟩
set_option maxRecDepth 100000 in
set_option maxHeartbeats 8000000 in
theorem program_cut2 (h : St w0 W gc gb gp m D) (hoff : m.off = false) (f : F3) (hplan : hitOf m.pl (tgt m) = some f) (hf1 : f.f1 ≠ 2) (hf2 : f.f2 ≠ 0) (hf3 : f.f2 ≠ 1) (n p : Nat) (hn : n < m.g.B) (hp : p < m.g.P) (hbad : (m.bk n).bad = false) (hnx : (m.bk n).nx = p) (A : Option Addr) (c : Nat) (l : List Int) (hr : ∀ w', Below w0.heap.size w0 w' → Keeps W w' → Kd.C kB w' A l.length l) (hc : l.length ≤ c) (hl : l.length ≤ m.g.Z) :
    Calls Tryd.prog 18 #[cp gc, .int .i64 n, .int .i64 p, .slice A l.length c] W fun e w' => e = .returned (.int .i64 6) ∧ (∃ v : Value, St w0 w' gc gb gp (({ m with ops := wrap64 (m.ops + 1), off := true } : Ch).setBk n { ((m.bk n).setPg p ⟨1, v⟩) with nx := wrap64 ((p : Int) + 1) }) (updD D n p l)) ∧ Keeps W w' := by
  have HRY := Aside0.mk (ready_yes h hoff n hn)
  have H := Aside0.mk h
  have HPL := Aside0.mk hplan
  have HBD := Aside0.mk hbad
  have HNX := Aside0.mk hnx
  have HRD := Aside0.mk hr
  have HCC := Aside0.mk hc
  have hzz := h.gok.2.2
  have HLZ := Aside0.mk (show l.length ≤ 140737488355328 by omega)
  clear hzz
  have d1 : decide ((p : Int) < 0) = false := decide_eq_false (by omega)
  have d2 : decide ((m.g.P : Int) ≤ (p : Int)) = false := decide_eq_false (by omega)
  have d3 : decide (m.g.P ≤ p) = false := decide_eq_false (by omega)
  have d4 : decide ((m.g.Z : Int) < (l.length : Int)) = false := decide_eq_false (by omega)
  have d5 : decide (m.g.Z < l.length) = false := decide_eq_false (by omega)
  have hqp : ((p : Int) < (m.g.P : Int)) = True := eq_true (by omega)
  have hqp2 : (p < m.g.P) = True := eq_true hp
  have hu44 := Tryd.underlying71
  have hu65 := Tryd.underlying88
  have HF1 := Aside0.mk hf1
  have e1 : (f.f1 == (2 : Int)) = false := by simp only [beq_eq_false_iff_ne]; exact hf1
  have e2 : (f.f2 == (0 : Int)) = false := by simp only [beq_eq_false_iff_ne]; exact hf2
  have e3 : (f.f2 == (1 : Int)) = false := by simp only [beq_eq_false_iff_ne]; exact hf3
  clear h hoff hplan hbad hnx hr hc hf1 hf2 hf3
  go_enter Tryd.func18, Tryd.ntmps18
  go_upto_region 9 with (first
    | (go_at_call 33; (with_reducible refine HRY.out.mono ?_); rintro e w1 ⟨rfl, hb1⟩; have h1 := H.out.grow hb1; have H1 := Aside0.mk h1; have HB1 := Aside0.mk hb1; obtain ⟨z0, z1, z2, z3⟩ := h1.cellB n hn; rw [HBD.out] at z0; rw [HNX.out] at z3; have y2 : w1.cell? ⟨gc, 2, none⟩ = some (.int .i64 m.g.Z) := h1.cellC 2; clear hb1 h1))
  clear z0 z1 z2 z3 y2
  have hbn := begin_any H1.out
  rw [show hitOf m.pl (wrap64 (wrap64 (m.ops + 1) - m.frm)) = some f from HPL.out, show bgV (some f) = .tuple #[.agg #[.int .i64 f.f0, .int .i64 f.f1, .int .i64 f.f2], .bool true] from rfl] at hbn
  have HBN := Aside0.mk hbn
  clear hbn
  go_upto_region 10 with (first
    | (go_at_call 34; (with_reducible refine HBN.out.mono ?_); rintro e w2 ⟨rfl, h2, hk2⟩; have H2 := Aside0.mk h2; have HK2 := Aside0.mk ((Keeps.of_below HB1.out).trans hk2); clear h2 hk2))
  go_upto_block 0 with (fail)
  generalize hW : w2.alloc (.cells #[.int .i64 f.f0, .int .i64 f.f1, .int .i64 f.f2] 71) = W2a
  have hb3a : Below w2.heap.size w2 W2a := by rw [← hW]; exact below_alloc (Below.refl _ _) _
  have hx3 : W2a.heap[w2.heap.size]? = some (.cells #[.int .i64 f.f0, .int .i64 f.f1, .int .i64 f.f2] 71 (0, 0)) := by rw [← hW]; exact new_blk _ _ _
  have h3a := H2.out.grow hb3a
  have x1 := Joins.cell_of_block hx3 1
  have fo := blk_frozen h3a.c 7
  have co := h3a.cellC 7
  have H3a := Aside0.mk h3a
  have HX3 := Aside0.mk hx3
  have HK3a := Aside0.mk (HK2.out.trans (Keeps.of_below hb3a))
  clear hW hb3a h3a hx3
  go_upto_region 12 with (fail)
  generalize hW : W2a.setCell ⟨gc, 7, none⟩ (.bool true) = W3
  have h3 : St w0 W3 gc gb gp { m with ops := wrap64 (m.ops + 1), off := true } D := by rw [← hW]; exact H3a.out.setC 7 _ rfl rfl rfl H3a.out.pln
  have hk3 : Keeps W W3 := by rw [← hW]; exact HK3a.out.set H3a.out.c (by decide) _ _
  have hx3 : W3.heap[w2.heap.size]? = some (.cells #[.int .i64 f.f0, .int .i64 f.f1, .int .i64 f.f2] 71 (0, 0)) := by rw [← hW]; exact blk_far HX3.out (ne_of_type HX3.out H3a.out.c (by decide)) _
  have x2 := Joins.cell_of_block hx3 2
  have HK3 := Aside0.mk hk3
  clear hW hk3 hx3 x1 fo co
  obtain ⟨z0, z1, z2, z3⟩ := h3.cellB n hn
  obtain ⟨q0, q1⟩ := h3.cellP n hn p hp
  have fq0 := blk_frozen (h3.p n hn) (p * 2)
  have fq1 := blk_frozen (h3.p n hn) (p * 2 + 1)
  have H3 := Aside0.mk h3
  clear h3
  go_upto_region 22 with (fail)
  generalize hW : (W3.setCell ⟨gp n, p * 2, none⟩ (.int .i64 1)).setCell ⟨gp n, p * 2 + 1, none⟩ (.slice none 0 0) = W4
  have h4 := H3.out.page n hn p hp 1 (.slice none 0 0) [] (Kd.R_nil _ _ _ _ _)
  have hk4 := (HK3.out.set (H3.out.p n hn) (by decide) (p * 2) (.int .i64 1)).set (blk_set (H3.out.p n hn) (p * 2) (.int .i64 1)) (by decide) (p * 2 + 1) (.slice none 0 0)
  rw [hW] at h4 hk4
  clear z0 z1 z2 z3 q0 q1 fq0 fq1 x2
  have H4 := Aside0.mk h4
  have HK4 := Aside0.mk hk4
  clear hW h4 hk4
  go_upto_region 23 with (fail)
  refine Rel.tail (m := 9) [(0, 96, .inl ?r2v0), (1, 97, .inl ?r2v1), (2, 98, .inl ?r2v2), (3, 99, .inl ?r2v3), (4, 100, .inl ?r2v4), (5, 101, .inl ?r2v5), (6, 102, .inr (fun v w' => Kd.R kB 5 w' w0.heap.size (fun _ => True) v l)), (7, 103, .inl ?r2v7), (8, 104, .inl ?r2v8)] (fun w' => Below W4.heap.size W4 w') (fun w' w'' => Below w'.heap.size w' w'') (by rfl) rfl (by kernel_rfl) (by kernel_rfl) (by kernel_rfl) ?r2S (Rel.stable_inl (Rel.stable_inl (Rel.stable_inl (Rel.stable_inl (Rel.stable_inl (Rel.stable_inl (Rel.stable_inr (fun v w w' hb h => Kd.R_below h hb) (Rel.stable_inl (Rel.stable_inl Rel.stable_nil))))))))) ?r2steps ?r2okv ?r2hlt ?r2fin
  case r2S => exact below_drew (Below.refl _ _)
  case r2steps =>
    refine Rel.from_some 0 rfl rfl (fun a wq hS hK K hC => ?_) ?_
    · refine Reg.step_on (by rfl) ?_
      have e9 := hK.off 9 _ rfl rfl
      clear hK
      go_simp
      exact hC _ hS (Below.refl _ _)
    refine Rel.from_some 1 rfl rfl (fun a wq hS hK K hC => ?_) ?_
    · refine Reg.step_on (by rfl) ?_
      have e96 := hK.slot 0 _ _ _ rfl (by kernel_rfl)
      clear hK
      go_simp
      exact hC _ hS (Below.refl _ _)
    refine Rel.from_some 2 rfl rfl (fun a wq hS hK K hC => ?_) ?_
    · refine Reg.step_on (by rfl) ?_
      have e97 := hK.slot 1 _ _ _ rfl (by kernel_rfl)
      clear hK
      go_simp
      exact hC _ hS (Below.refl _ _)
    refine Rel.from_some 3 rfl rfl (fun a wq hS hK K hC => ?_) ?_
    · refine Reg.step_on (by rfl) ?_
      have e98 := hK.slot 2 _ _ _ rfl (by kernel_rfl)
      have zz := ((H4.out.grow hS).cellB n hn).2.2.1
      change _ = some (Value.slice (some ⟨gp n, 0, none⟩) m.g.P m.g.P) at zz
      clear hK
      go_simp
      exact hC _ hS (Below.refl _ _)
    refine Rel.from_some 4 rfl rfl (fun a wq hS hK K hC => ?_) ?_
    · refine Reg.step_on (by rfl) ?_
      have e2 := hK.off 2 _ rfl rfl
      clear hK
      go_simp
      exact hC _ hS (Below.refl _ _)
    refine Rel.from_some 5 rfl rfl (fun a wq hS hK K hC => ?_) ?_
    · refine Reg.step_on (by rfl) ?_
      have e3 := hK.off 3 _ rfl rfl
      clear hK
      go_simp
      exact hC _ hS (Below.refl _ _)
    refine Rel.from_rel 6 rfl rfl (fun a wq hS hK K hC => ?_) ?_
    · refine Reg.step_on (by rfl) ?_
      have e101 := hK.slot 5 _ _ _ rfl (by kernel_rfl)
      clear hK
      go_simp
      go_at_call 35; (with_reducible refine (clone_bytes A c l wq (HRD.out wq (H4.out.grow hS).below (HK4.out.trans (Keeps.of_below hS))) HCC.out ?cb).mono ?_)
      case cb => exact HLZ.out
      rintro e w' ⟨v, rfl, ho, hb⟩
      exact hC v w' (below_step hS hb) hb (Kd.R_lower ho (below_size (H4.out.grow hS).below))
    refine Rel.from_some 7 rfl rfl (fun a wq hS hK K hC => ?_) ?_
    · refine Reg.step_on (by rfl) ?_
      have e99 := hK.slot 3 _ _ _ rfl (by kernel_rfl)
      have e100 := hK.slot 4 _ _ _ rfl (by kernel_rfl)
      clear hK
      go_simp
      exact hC _ hS (Below.refl _ _)
    refine Rel.from_some 8 rfl rfl (fun a wq hS hK K hC => ?_) ?_
    · refine Reg.step_on (by rfl) ?_
      have e103 := hK.slot 7 _ _ _ rfl (by kernel_rfl)
      clear hK
      go_simp
      exact hC _ hS (Below.refl _ _)
    exact Rel.from_nil
  case r2okv => rfl
  case r2hlt => rfl
  case r2fin =>
    intro U wz hS hU
    have q6 := hU 6 _ _ _ rfl
    clear hU
    simp only [Rel.inst, Nat.zero_add, Nat.reduceAdd, Reg.putV, List.foldl_cons, List.foldl_nil, Act.put, List.setIfInBounds_toArray, List.set_cons_zero, List.set_cons_succ]
    have h5 := H4.out.grow hS
    have HQ := Aside0.mk q6
    obtain ⟨r0, r1⟩ := h5.cellP n hn p hp
    have fr1 := blk_frozen (h5.p n hn) (p * 2 + 1)
    have H5 := Aside0.mk h5
    have HK5 := Aside0.mk (HK4.out.trans (Keeps.of_below hS))
    obtain ⟨A6, c6, e6⟩ := Kd.R_slice q6
    rw [e6] at HQ ⊢
    clear hS h5 q6 e6
    refine Rel.tail_cons (fun K hK => ?_)
    refine Reg.step_on (by rfl) ?_
    go_simp
    refine hK _ _ ?_
    clear hK r0 r1 fr1
    refine Rel.tail_nil ?_
    have h6 := H5.out.pageD n hn p hp (.slice A6 l.length c6) l HQ.out
    have hk6 := HK5.out.set (H5.out.p n hn) (by decide) (p * 2 + 1) (.slice A6 l.length c6)
    rw [setBk_self, setBk_twice, setPg_self, setPg_twice, updD_twice] at h6
    generalize wz.setCell ⟨gp n, p * 2 + 1, none⟩ (.slice A6 l.length c6) = W6 at h6 hk6 ⊢
    obtain ⟨z0, z1, z2, z3⟩ := h6.cellB n hn
    rw [setBk_self] at z3
    change W6.cell? ⟨gb, n * 4 + 3, none⟩ = some (.int .i64 (m.bk n).nx) at z3
    rw [HNX.out] at z3
    have f3 := blk_frozen h6.b (n * 4 + 3)
    have H6 := Aside0.mk h6
    have HK6 := Aside0.mk hk6
    clear h6 hk6 z0 z1 z2
    go_wp2
    go_ret
    have h7 := H6.out.nx n (wrap64 ((p : Int) + 1))
    rw [setBk_self, setBk_twice] at h7
    exact ⟨rfl, ⟨_, h7⟩, HK6.out.set H6.out.b (by decide) _ _⟩
set_option maxRecDepth 100000 in
set_option maxHeartbeats 8000000 in
theorem program_perm (h : St w0 W gc gb gp m D) (hoff : m.off = false) (n p : Nat) (hn : n < m.g.B) (hp : p < m.g.P) (hbad : (m.bk n).bad = true ∨ (m.bk n).nx ≠ p) (A : Option Addr) (len c : Nat) (hl : len ≤ m.g.Z) :
    Calls Tryd.prog 18 #[cp gc, .int .i64 n, .int .i64 p, .slice A len c] W fun e w' => e = .returned (.int .i64 1) ∧ St w0 w' gc gb gp { m with wrong := wrap64 (m.wrong + 1) } D ∧ Keeps W w' := by
  have HRY := Aside0.mk (ready_yes h hoff n hn)
  have H := Aside0.mk h
  have HBD := Aside0.mk hbad
  have d1 : decide ((p : Int) < 0) = false := decide_eq_false (by omega)
  have d2 : decide ((m.g.P : Int) ≤ (p : Int)) = false := decide_eq_false (by omega)
  have d3 : decide (m.g.P ≤ p) = false := decide_eq_false (by omega)
  have d4 : decide ((m.g.Z : Int) < (len : Int)) = false := decide_eq_false (by omega)
  have d5 : decide (m.g.Z < len) = false := decide_eq_false (by omega)
  clear h hoff hbad
  cases hb : (m.bk n).bad with
  | true =>
    have HB := Aside0.mk hb
    clear hb
    go_enter Tryd.func18, Tryd.ntmps18
    go_wp2_with (first
      | (go_at_call 33; (with_reducible refine HRY.out.mono ?_); rintro e w1 ⟨rfl, hb1⟩; have h1 := H.out.grow hb1; have H1 := Aside0.mk h1; have HB1 := Aside0.mk hb1; obtain ⟨z0, z1, z2, z3⟩ := h1.cellB n hn; rw [HB.out] at z0; have y2 : w1.cell? ⟨gc, 2, none⟩ = some (.int .i64 m.g.Z) := h1.cellC 2; have y9 : w1.cell? ⟨gc, 9, none⟩ = some (.int .i64 m.wrong) := h1.cellC 9; have f9 := blk_frozen h1.c 9; clear hb1 h1))
    go_ret
    exact ⟨rfl, H1.out.wrong _, (Keeps.of_below HB1.out).set H1.out.c (by decide) _ _⟩
  | false =>
    have hne : (m.bk n).nx ≠ p := by
      rcases HBD.out with h | h
      · rw [hb] at h; cases h
      · exact h
    have e1 : ((p : Int) == (m.bk n).nx) = false := by simp only [beq_eq_false_iff_ne]; exact fun h => hne h.symm
    have e2 : ((p : Int) != (m.bk n).nx) = true := by simp only [bne_iff_ne]; exact fun h => hne h.symm
    have HB := Aside0.mk hb
    clear hb hne
    go_enter Tryd.func18, Tryd.ntmps18
    go_wp2_with (first
      | (go_at_call 33; (with_reducible refine HRY.out.mono ?_); rintro e w1 ⟨rfl, hb1⟩; have h1 := H.out.grow hb1; have H1 := Aside0.mk h1; have HB1 := Aside0.mk hb1; obtain ⟨z0, z1, z2, z3⟩ := h1.cellB n hn; rw [HB.out] at z0; have y2 : w1.cell? ⟨gc, 2, none⟩ = some (.int .i64 m.g.Z) := h1.cellC 2; have y9 : w1.cell? ⟨gc, 9, none⟩ = some (.int .i64 m.wrong) := h1.cellC 9; have f9 := blk_frozen h1.c 9; clear hb1 h1))
    go_ret
    exact ⟨rfl, H1.out.wrong _, (Keeps.of_below HB1.out).set H1.out.c (by decide) _ _⟩
end Go.Proofs.YtdlimghdimkadaaDoor.PAll
