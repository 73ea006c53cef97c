import Derived.Test.YtnhlfbkpohidpaaNj
import Derived.Deep.CutBlock
namespace Go.Proofs.Ytnhlfbkpohidpaa.PAll
open Go.RowKit Go.Proofs.YtnhlfbkpohidpaaW.PrintWords Go.Proofs.YtnhlfbkpohidpaaW.PrintLast Go.Proofs.YtnhlfbkpohidpaaW.PrintMore
set_option linter.unusedSimpArgs false
set_option linter.unusedVariables false
attribute [local go_sem] max2_int min2_int max_two min_two max_three min_three max_four min_four
variable {w0 W : World} {gc gb : Nat} {gp : Nat → Nat} {m : Ch} {D : Nat → Nat → List Int}
/-! ### Program and Erase that meet a power cut -/
set_option maxRecDepth 100000 in
set_option maxHeartbeats 8000000 in
theorem program_cut0 (h : St w0 W gc gb gp m D) (hoff : m.off = false) (f : S44) (hplan : m.pl = [f]) (hf0 : f.f0 = wrap64 (wrap64 (m.ops + 1) - m.frm)) (hf1 : f.f1 = 1) (hf2 : f.f2 = 0) (n p : Nat) (hn : n < 16) (hp : p < 16) (hbad : (m.bk n).bad = false) (hnx : (m.bk n).nx = p) (A : Option Addr) (c : Nat) (l : List Int) (hr : ∀ w', Below w0.heap.size w0 w' → Keeps W w' → Kd.C (Kd.int .u8) w' A l.length l) (hc : l.length ≤ c) (hl : l.length ≤ 128) :
    Calls Try.prog 11 #[cp gc, .int .i64 n, .int .i64 p, .slice A l.length c] W fun e w' => e = .returned (.int .i64 6) ∧ St w0 w' gc gb gp ({ m with ops := wrap64 (m.ops + 1), off := true } : Ch) D ∧ Keeps W w' := by
  have HRY := Aside0.mk (ready_yes h hoff n hn)
  have H := Aside0.mk h
  have HPL := Aside0.mk hplan
  have HBD := Aside0.mk hbad
  have HNX := Aside0.mk hnx
  have HRD := Aside0.mk hr
  have HCC := Aside0.mk hc
  have d1 : decide ((p : Int) < 0) = false := decide_eq_false (by omega)
  have d2 : decide ((16 : Int) ≤ (p : Int)) = false := decide_eq_false (by omega)
  have d3 : decide (16 ≤ p) = false := decide_eq_false (by omega)
  have d4 : decide ((128 : Int) < (l.length : Int)) = false := decide_eq_false (by omega)
  have d5 : decide (128 < l.length) = false := decide_eq_false (by omega)
  have hqp : ((p : Int) < 16) = True := eq_true (by omega)
  have hqp2 : (p < 16) = True := eq_true hp
  have hu44 := Try.underlying44
  have hu65 := Try.underlying65
  have HF0 := Aside0.mk hf0
  have HF1 := Aside0.mk hf1
  have HF2 := Aside0.mk hf2
  clear h hoff hplan hf0 hf1 hf2 hbad hnx hr hc
  go_enter Try.func11, Try.ntmps11
  go_upto_region 9 with (first
    | (go_at_call 27; (with_reducible refine HRY.out.mono ?_); rintro e w1 ⟨rfl, hb1⟩; have h1 := H.out.grow hb1; have H1 := Aside0.mk h1; have HB1 := Aside0.mk hb1; obtain ⟨z0, z1, z2, z3⟩ := h1.cellB n hn; rw [HBD.out] at z0; rw [HNX.out] at z3; have y2 : w1.cell? ⟨gc, 2, none⟩ = some (.int .i64 128) := h1.cellC 2; clear hb1 h1))
  clear z0 z1 z2 z3 y2
  have HBN := Aside0.mk (begin_hit H1.out f HPL.out HF0.out)
  go_upto_region 10 with (first
    | (go_at_call 29; (with_reducible refine HBN.out.mono ?_); rintro e w2 ⟨rfl, h2, hk2⟩; have H2 := Aside0.mk h2; have HK2 := Aside0.mk ((Keeps.of_below HB1.out).trans hk2); clear h2 hk2))
  go_upto_block 0 with (fail)
  generalize hW : w2.alloc (.cells #[.int .i64 f.f0, .int .i64 f.f1, .int .i64 f.f2] 44) = W2a
  have hb3a : Below w2.heap.size w2 W2a := by rw [← hW]; exact below_alloc (Below.refl _ _) _
  have hx3 : W2a.heap[w2.heap.size]? = some (.cells #[.int .i64 f.f0, .int .i64 f.f1, .int .i64 f.f2] 44 (0, 0)) := by rw [← hW]; exact new_blk _ _ _
  rw [HF1.out, HF2.out] at hx3
  have h3a := H2.out.grow hb3a
  have x1 := Joins.cell_of_block hx3 1
  have fo := blk_frozen h3a.c 7
  have co := h3a.cellC 7
  have H3a := Aside0.mk h3a
  have HX3 := Aside0.mk hx3
  have HK3a := Aside0.mk (HK2.out.trans (Keeps.of_below hb3a))
  clear hW hb3a h3a hx3
  go_upto_region 12 with (fail)
  generalize hW : W2a.setCell ⟨gc, 7, none⟩ (.bool true) = W3
  have h3 : St w0 W3 gc gb gp { m with ops := wrap64 (m.ops + 1), off := true } D := by rw [← hW]; exact H3a.out.setC 7 _ rfl rfl H3a.out.pln
  have hk3 : Keeps W W3 := by rw [← hW]; exact HK3a.out.set H3a.out.c (by decide) _ _
  have hx3 : W3.heap[w2.heap.size]? = some (.cells #[.int .i64 f.f0, .int .i64 1, .int .i64 0] 44 (0, 0)) := by rw [← hW]; exact blk_far HX3.out (ne_of_type HX3.out H3a.out.c (by decide)) _
  have x2 := Joins.cell_of_block hx3 2
  have HK3 := Aside0.mk hk3
  clear hW hk3 hx3 x1 fo co
  have H3 := Aside0.mk h3
  clear h3
  go_wp2
  go_ret
  exact ⟨rfl, H3.out, HK3.out⟩
set_option maxRecDepth 100000 in
set_option maxHeartbeats 8000000 in
theorem program_cut1 (h : St w0 W gc gb gp m D) (hoff : m.off = false) (f : S44) (hplan : m.pl = [f]) (hf0 : f.f0 = wrap64 (wrap64 (m.ops + 1) - m.frm)) (hf1 : f.f1 = 1) (hf2 : f.f2 = 1) (n p : Nat) (hn : n < 16) (hp : p < 16) (hbad : (m.bk n).bad = false) (hnx : (m.bk n).nx = p) (A : Option Addr) (c : Nat) (l : List Int) (hr : ∀ w', Below w0.heap.size w0 w' → Keeps W w' → Kd.C (Kd.int .u8) w' A l.length l) (hc : l.length ≤ c) (hl : l.length ≤ 128) :
    Calls Try.prog 11 #[cp gc, .int .i64 n, .int .i64 p, .slice A l.length c] W fun e w' => e = .returned (.int .i64 6) ∧ St w0 w' gc gb gp (({ m with ops := wrap64 (m.ops + 1), off := true } : Ch).setBk n { ((m.bk n).setPg p ⟨2, .slice none 0 0⟩) with nx := (p : Int) + 1 }) (updD D n p []) ∧ Keeps W w' := by
  have HRY := Aside0.mk (ready_yes h hoff n hn)
  have H := Aside0.mk h
  have HPL := Aside0.mk hplan
  have HBD := Aside0.mk hbad
  have HNX := Aside0.mk hnx
  have HRD := Aside0.mk hr
  have HCC := Aside0.mk hc
  have d1 : decide ((p : Int) < 0) = false := decide_eq_false (by omega)
  have d2 : decide ((16 : Int) ≤ (p : Int)) = false := decide_eq_false (by omega)
  have d3 : decide (16 ≤ p) = false := decide_eq_false (by omega)
  have d4 : decide ((128 : Int) < (l.length : Int)) = false := decide_eq_false (by omega)
  have d5 : decide (128 < l.length) = false := decide_eq_false (by omega)
  have hqp : ((p : Int) < 16) = True := eq_true (by omega)
  have hqp2 : (p < 16) = True := eq_true hp
  have hu44 := Try.underlying44
  have hu65 := Try.underlying65
  have HF0 := Aside0.mk hf0
  have HF1 := Aside0.mk hf1
  have HF2 := Aside0.mk hf2
  clear h hoff hplan hf0 hf1 hf2 hbad hnx hr hc
  go_enter Try.func11, Try.ntmps11
  go_upto_region 9 with (first
    | (go_at_call 27; (with_reducible refine HRY.out.mono ?_); rintro e w1 ⟨rfl, hb1⟩; have h1 := H.out.grow hb1; have H1 := Aside0.mk h1; have HB1 := Aside0.mk hb1; obtain ⟨z0, z1, z2, z3⟩ := h1.cellB n hn; rw [HBD.out] at z0; rw [HNX.out] at z3; have y2 : w1.cell? ⟨gc, 2, none⟩ = some (.int .i64 128) := h1.cellC 2; clear hb1 h1))
  clear z0 z1 z2 z3 y2
  have HBN := Aside0.mk (begin_hit H1.out f HPL.out HF0.out)
  go_upto_region 10 with (first
    | (go_at_call 29; (with_reducible refine HBN.out.mono ?_); rintro e w2 ⟨rfl, h2, hk2⟩; have H2 := Aside0.mk h2; have HK2 := Aside0.mk ((Keeps.of_below HB1.out).trans hk2); clear h2 hk2))
  go_upto_block 0 with (fail)
  generalize hW : w2.alloc (.cells #[.int .i64 f.f0, .int .i64 f.f1, .int .i64 f.f2] 44) = W2a
  have hb3a : Below w2.heap.size w2 W2a := by rw [← hW]; exact below_alloc (Below.refl _ _) _
  have hx3 : W2a.heap[w2.heap.size]? = some (.cells #[.int .i64 f.f0, .int .i64 f.f1, .int .i64 f.f2] 44 (0, 0)) := by rw [← hW]; exact new_blk _ _ _
  rw [HF1.out, HF2.out] at hx3
  have h3a := H2.out.grow hb3a
  have x1 := Joins.cell_of_block hx3 1
  have fo := blk_frozen h3a.c 7
  have co := h3a.cellC 7
  have H3a := Aside0.mk h3a
  have HX3 := Aside0.mk hx3
  have HK3a := Aside0.mk (HK2.out.trans (Keeps.of_below hb3a))
  clear hW hb3a h3a hx3
  go_upto_region 12 with (fail)
  generalize hW : W2a.setCell ⟨gc, 7, none⟩ (.bool true) = W3
  have h3 : St w0 W3 gc gb gp { m with ops := wrap64 (m.ops + 1), off := true } D := by rw [← hW]; exact H3a.out.setC 7 _ rfl rfl H3a.out.pln
  have hk3 : Keeps W W3 := by rw [← hW]; exact HK3a.out.set H3a.out.c (by decide) _ _
  have hx3 : W3.heap[w2.heap.size]? = some (.cells #[.int .i64 f.f0, .int .i64 1, .int .i64 1] 44 (0, 0)) := by rw [← hW]; exact blk_far HX3.out (ne_of_type HX3.out H3a.out.c (by decide)) _
  have x2 := Joins.cell_of_block hx3 2
  have HK3 := Aside0.mk hk3
  clear hW hk3 hx3 x1 fo co
  obtain ⟨z0, z1, z2, z3⟩ := h3.cellB n hn
  obtain ⟨q0, q1⟩ := h3.cellP n hn p hp
  have fq0 := blk_frozen (h3.p n hn) (p * 2)
  have fq1 := blk_frozen (h3.p n hn) (p * 2 + 1)
  have H3 := Aside0.mk h3
  clear h3
  go_upto_region 22 with (fail)
  generalize hW : (W3.setCell ⟨gp n, p * 2, none⟩ (.int .i64 2)).setCell ⟨gp n, p * 2 + 1, none⟩ (.slice none 0 0) = W4
  have h4 := H3.out.page n hn p hp 2 (.slice none 0 0) [] (Kd.R_nil _ _ _ _ _)
  have hk4 := (HK3.out.set (H3.out.p n hn) (by decide) (p * 2) (.int .i64 2)).set (blk_set (H3.out.p n hn) (p * 2) (.int .i64 2)) (by decide) (p * 2 + 1) (.slice none 0 0)
  rw [hW] at h4 hk4
  clear z0 z1 z2 z3 q0 q1 fq0 fq1
  have z3 := (h4.cellB n hn).2.2.2
  rw [setBk_self] at z3
  change W4.cell? ⟨gb, n * 4 + 3, none⟩ = some (.int .i64 (m.bk n).nx) at z3
  rw [HNX.out] at z3
  have f3 := blk_frozen h4.b (n * 4 + 3)
  have H4 := Aside0.mk h4
  have HK4 := Aside0.mk hk4
  clear hW h4 hk4
  go_wp2
  go_ret
  have h7 := H4.out.nx n ((p : Int) + 1)
  rw [setBk_self, setBk_twice] at h7
  exact ⟨rfl, h7, HK4.out.set H4.out.b (by decide) _ _⟩
set_option maxRecDepth 100000 in
set_option maxHeartbeats 8000000 in
theorem program_cut2 (h : St w0 W gc gb gp m D) (hoff : m.off = false) (f : S44) (hplan : m.pl = [f]) (hf0 : f.f0 = wrap64 (wrap64 (m.ops + 1) - m.frm)) (hf1 : f.f1 = 1) (hf2 : f.f2 = 2) (n p : Nat) (hn : n < 16) (hp : p < 16) (hbad : (m.bk n).bad = false) (hnx : (m.bk n).nx = p) (A : Option Addr) (c : Nat) (l : List Int) (hr : ∀ w', Below w0.heap.size w0 w' → Keeps W w' → Kd.C (Kd.int .u8) w' A l.length l) (hc : l.length ≤ c) (hl : l.length ≤ 128) :
    Calls Try.prog 11 #[cp gc, .int .i64 n, .int .i64 p, .slice A l.length c] W fun e w' => e = .returned (.int .i64 6) ∧ (∃ v : Value, St w0 w' gc gb gp (({ m with ops := wrap64 (m.ops + 1), off := true } : Ch).setBk n { ((m.bk n).setPg p ⟨1, v⟩) with nx := (p : Int) + 1 }) (updD D n p l)) ∧ Keeps W w' := by
  have HRY := Aside0.mk (ready_yes h hoff n hn)
  have H := Aside0.mk h
  have HPL := Aside0.mk hplan
  have HBD := Aside0.mk hbad
  have HNX := Aside0.mk hnx
  have HRD := Aside0.mk hr
  have HCC := Aside0.mk hc
  have d1 : decide ((p : Int) < 0) = false := decide_eq_false (by omega)
  have d2 : decide ((16 : Int) ≤ (p : Int)) = false := decide_eq_false (by omega)
  have d3 : decide (16 ≤ p) = false := decide_eq_false (by omega)
  have d4 : decide ((128 : Int) < (l.length : Int)) = false := decide_eq_false (by omega)
  have d5 : decide (128 < l.length) = false := decide_eq_false (by omega)
  have hqp : ((p : Int) < 16) = True := eq_true (by omega)
  have hqp2 : (p < 16) = True := eq_true hp
  have hu44 := Try.underlying44
  have hu65 := Try.underlying65
  have HF0 := Aside0.mk hf0
  have HF1 := Aside0.mk hf1
  have HF2 := Aside0.mk hf2
  clear h hoff hplan hf0 hf1 hf2 hbad hnx hr hc
  go_enter Try.func11, Try.ntmps11
  go_upto_region 9 with (first
    | (go_at_call 27; (with_reducible refine HRY.out.mono ?_); rintro e w1 ⟨rfl, hb1⟩; have h1 := H.out.grow hb1; have H1 := Aside0.mk h1; have HB1 := Aside0.mk hb1; obtain ⟨z0, z1, z2, z3⟩ := h1.cellB n hn; rw [HBD.out] at z0; rw [HNX.out] at z3; have y2 : w1.cell? ⟨gc, 2, none⟩ = some (.int .i64 128) := h1.cellC 2; clear hb1 h1))
  clear z0 z1 z2 z3 y2
  have HBN := Aside0.mk (begin_hit H1.out f HPL.out HF0.out)
  go_upto_region 10 with (first
    | (go_at_call 29; (with_reducible refine HBN.out.mono ?_); rintro e w2 ⟨rfl, h2, hk2⟩; have H2 := Aside0.mk h2; have HK2 := Aside0.mk ((Keeps.of_below HB1.out).trans hk2); clear h2 hk2))
  go_upto_block 0 with (fail)
  generalize hW : w2.alloc (.cells #[.int .i64 f.f0, .int .i64 f.f1, .int .i64 f.f2] 44) = W2a
  have hb3a : Below w2.heap.size w2 W2a := by rw [← hW]; exact below_alloc (Below.refl _ _) _
  have hx3 : W2a.heap[w2.heap.size]? = some (.cells #[.int .i64 f.f0, .int .i64 f.f1, .int .i64 f.f2] 44 (0, 0)) := by rw [← hW]; exact new_blk _ _ _
  rw [HF1.out, HF2.out] at hx3
  have h3a := H2.out.grow hb3a
  have x1 := Joins.cell_of_block hx3 1
  have fo := blk_frozen h3a.c 7
  have co := h3a.cellC 7
  have H3a := Aside0.mk h3a
  have HX3 := Aside0.mk hx3
  have HK3a := Aside0.mk (HK2.out.trans (Keeps.of_below hb3a))
  clear hW hb3a h3a hx3
  go_upto_region 12 with (fail)
  generalize hW : W2a.setCell ⟨gc, 7, none⟩ (.bool true) = W3
  have h3 : St w0 W3 gc gb gp { m with ops := wrap64 (m.ops + 1), off := true } D := by rw [← hW]; exact H3a.out.setC 7 _ rfl rfl H3a.out.pln
  have hk3 : Keeps W W3 := by rw [← hW]; exact HK3a.out.set H3a.out.c (by decide) _ _
  have hx3 : W3.heap[w2.heap.size]? = some (.cells #[.int .i64 f.f0, .int .i64 1, .int .i64 2] 44 (0, 0)) := by rw [← hW]; exact blk_far HX3.out (ne_of_type HX3.out H3a.out.c (by decide)) _
  have x2 := Joins.cell_of_block hx3 2
  have HK3 := Aside0.mk hk3
  clear hW hk3 hx3 x1 fo co
  obtain ⟨z0, z1, z2, z3⟩ := h3.cellB n hn
  obtain ⟨q0, q1⟩ := h3.cellP n hn p hp
  have fq0 := blk_frozen (h3.p n hn) (p * 2)
  have fq1 := blk_frozen (h3.p n hn) (p * 2 + 1)
  have H3 := Aside0.mk h3
  clear h3
  go_upto_region 22 with (fail)
  generalize hW : (W3.setCell ⟨gp n, p * 2, none⟩ (.int .i64 1)).setCell ⟨gp n, p * 2 + 1, none⟩ (.slice none 0 0) = W4
  have h4 := H3.out.page n hn p hp 1 (.slice none 0 0) [] (Kd.R_nil _ _ _ _ _)
  have hk4 := (HK3.out.set (H3.out.p n hn) (by decide) (p * 2) (.int .i64 1)).set (blk_set (H3.out.p n hn) (p * 2) (.int .i64 1)) (by decide) (p * 2 + 1) (.slice none 0 0)
  rw [hW] at h4 hk4
  have H4 := Aside0.mk h4
  have HK4 := Aside0.mk hk4
  clear hW h4 hk4 z0 z1 z2 z3 q0 q1 fq0 fq1
  go_upto_region 23 with (fail)
  refine Rel.tail (m := 9) [(0, 96, .inl ?r1v0), (1, 97, .inl ?r1v1), (2, 98, .inl ?r1v2), (3, 99, .inl ?r1v3), (4, 100, .inl ?r1v4), (5, 101, .inl ?r1v5), (6, 102, .inr (fun v w' => Kd.R (Kd.int .u8) 5 w' w0.heap.size (fun _ => True) v l)), (7, 103, .inl ?r1v7), (8, 104, .inl ?r1v8)] (fun w' => Below W4.heap.size W4 w') (fun w' w'' => Below w'.heap.size w' w'') (by rfl) rfl (by kernel_rfl) (by kernel_rfl) (by kernel_rfl) ?r1S (Rel.stable_inl (Rel.stable_inl (Rel.stable_inl (Rel.stable_inl (Rel.stable_inl (Rel.stable_inl (Rel.stable_inr (fun v w w' hb h => Kd.R_below h hb) (Rel.stable_inl (Rel.stable_inl Rel.stable_nil))))))))) ?r1steps ?r1okv ?r1hlt ?r1fin
  case r1S => exact below_drew (Below.refl _ _)
  case r1steps =>
    refine Rel.from_some 0 rfl rfl (fun a wq hS hK K hC => ?_) ?_
    · refine Reg.step_on (by rfl) ?_
      have e9 := hK.off 9 _ rfl rfl
      clear hK
      go_simp
      exact hC _ hS (Below.refl _ _)
    refine Rel.from_some 1 rfl rfl (fun a wq hS hK K hC => ?_) ?_
    · refine Reg.step_on (by rfl) ?_
      have e96 := hK.slot 0 _ _ _ rfl (by kernel_rfl)
      clear hK
      go_simp
      exact hC _ hS (Below.refl _ _)
    refine Rel.from_some 2 rfl rfl (fun a wq hS hK K hC => ?_) ?_
    · refine Reg.step_on (by rfl) ?_
      have e97 := hK.slot 1 _ _ _ rfl (by kernel_rfl)
      clear hK
      go_simp
      exact hC _ hS (Below.refl _ _)
    refine Rel.from_some 3 rfl rfl (fun a wq hS hK K hC => ?_) ?_
    · refine Reg.step_on (by rfl) ?_
      have e98 := hK.slot 2 _ _ _ rfl (by kernel_rfl)
      have zz := ((H4.out.grow hS).cellB n hn).2.2.1
      clear hK
      go_simp
      exact hC _ hS (Below.refl _ _)
    refine Rel.from_some 4 rfl rfl (fun a wq hS hK K hC => ?_) ?_
    · refine Reg.step_on (by rfl) ?_
      have e2 := hK.off 2 _ rfl rfl
      clear hK
      go_simp
      exact hC _ hS (Below.refl _ _)
    refine Rel.from_some 5 rfl rfl (fun a wq hS hK K hC => ?_) ?_
    · refine Reg.step_on (by rfl) ?_
      have e3 := hK.off 3 _ rfl rfl
      clear hK
      go_simp
      exact hC _ hS (Below.refl _ _)
    refine Rel.from_rel 6 rfl rfl (fun a wq hS hK K hC => ?_) ?_
    · refine Reg.step_on (by rfl) ?_
      have e101 := hK.slot 5 _ _ _ rfl (by kernel_rfl)
      clear hK
      go_simp
      go_at_call 30; (with_reducible refine (clone_bytes A c l wq (HRD.out wq (H4.out.grow hS).below (HK4.out.trans (Keeps.of_below hS))) HCC.out ?cb).mono ?_)
      case cb => omega
      rintro e w' ⟨v, rfl, ho, hb⟩
      exact hC v w' (below_step hS hb) hb (Kd.R_lower ho (below_size (H4.out.grow hS).below))
    refine Rel.from_some 7 rfl rfl (fun a wq hS hK K hC => ?_) ?_
    · refine Reg.step_on (by rfl) ?_
      have e99 := hK.slot 3 _ _ _ rfl (by kernel_rfl)
      have e100 := hK.slot 4 _ _ _ rfl (by kernel_rfl)
      clear hK
      go_simp
      exact hC _ hS (Below.refl _ _)
    refine Rel.from_some 8 rfl rfl (fun a wq hS hK K hC => ?_) ?_
    · refine Reg.step_on (by rfl) ?_
      have e103 := hK.slot 7 _ _ _ rfl (by kernel_rfl)
      clear hK
      go_simp
      exact hC _ hS (Below.refl _ _)
    exact Rel.from_nil
  case r1okv => rfl
  case r1hlt => rfl
  case r1fin =>
    intro U wz hS hU
    have q6 := hU 6 _ _ _ rfl
    clear hU
    simp only [Rel.inst, Nat.zero_add, Nat.reduceAdd, Reg.putV, List.foldl_cons, List.foldl_nil, Act.put, List.setIfInBounds_toArray, List.set_cons_zero, List.set_cons_succ]
    have h5 := H4.out.grow hS
    have HQ := Aside0.mk q6
    obtain ⟨r0, r1⟩ := h5.cellP n hn p hp
    have fr1 := blk_frozen (h5.p n hn) (p * 2 + 1)
    have H5 := Aside0.mk h5
    have HK5 := Aside0.mk (HK4.out.trans (Keeps.of_below hS))
    obtain ⟨A6, c6, e6⟩ := Kd.R_slice q6
    rw [e6] at HQ ⊢
    clear hS h5 q6 e6
    refine Rel.tail_cons (fun K hK => ?_)
    refine Reg.step_on (by rfl) ?_
    go_simp
    refine hK _ _ ?_
    clear hK r0 r1 fr1
    refine Rel.tail_nil ?_
    have h6 := H5.out.pageD n hn p hp (.slice A6 l.length c6) l HQ.out
    have hk6 := HK5.out.set (H5.out.p n hn) (by decide) (p * 2 + 1) (.slice A6 l.length c6)
    rw [setBk_self, setBk_twice, setPg_self, setPg_twice, updD_twice] at h6
    generalize wz.setCell ⟨gp n, p * 2 + 1, none⟩ (.slice A6 l.length c6) = W6 at h6 hk6 ⊢
    obtain ⟨z0, z1, z2, z3⟩ := h6.cellB n hn
    rw [setBk_self] at z3
    change W6.cell? ⟨gb, n * 4 + 3, none⟩ = some (.int .i64 (m.bk n).nx) at z3
    rw [HNX.out] at z3
    have f3 := blk_frozen h6.b (n * 4 + 3)
    have H6 := Aside0.mk h6
    have HK6 := Aside0.mk hk6
    clear h6 hk6 z0 z1 z2
    go_wp2
    go_ret
    have h7 := H6.out.nx n ((p : Int) + 1)
    rw [setBk_self, setBk_twice] at h7
    exact ⟨rfl, ⟨_, h7⟩, HK6.out.set H6.out.b (by decide) _ _⟩
set_option maxRecDepth 100000 in
set_option maxHeartbeats 8000000 in
theorem erase_cut0 (h : St w0 W gc gb gp m D) (hoff : m.off = false) (f : S44) (hplan : m.pl = [f]) (hf0 : f.f0 = wrap64 (wrap64 (m.ops + 1) - m.frm)) (hf1 : f.f1 = 1) (hf2 : f.f2 = 0) (n : Nat) (hn : n < 16) (hbad : (m.bk n).bad = false) :
    Calls Try.prog 12 #[cp gc, .int .i64 n] W fun e w' => e = .returned (.int .i64 6) ∧ St w0 w' gc gb gp (({ m with ops := wrap64 (m.ops + 1), off := true } : Ch).setBk n { m.bk n with er := wrap64 ((m.bk n).er + 1) }) D ∧ Keeps W w' := by
  have HRY := Aside0.mk (ready_yes h hoff n hn)
  have H := Aside0.mk h
  have HPL := Aside0.mk hplan
  have HF0 := Aside0.mk hf0
  have HF1 := Aside0.mk hf1
  have HF2 := Aside0.mk hf2
  have HBD := Aside0.mk hbad
  have hu44 := Try.underlying44
  clear h hoff hplan hf0 hf1 hf2 hbad
  go_enter Try.func12, Try.ntmps12
  go_upto_region 7 with (first
    | (go_at_call 27; (with_reducible refine HRY.out.mono ?_); rintro e w1 ⟨rfl, hb1⟩; have h1 := H.out.grow hb1; have H1 := Aside0.mk h1; have HB1 := Aside0.mk hb1; have z0 := (h1.cellB n hn).1; rw [HBD.out] at z0; clear hb1 h1))
  clear z0
  have HBN := Aside0.mk (begin_hit H1.out f HPL.out HF0.out)
  go_upto_region 8 with (first
    | (go_at_call 29; (with_reducible refine HBN.out.mono ?_); rintro e w2 ⟨rfl, h2, hk2⟩; have H2 := Aside0.mk h2; have HK2 := Aside0.mk ((Keeps.of_below HB1.out).trans hk2); clear h2 hk2))
  generalize hW : w2.alloc (.cells #[.int .i64 f.f0, .int .i64 f.f1, .int .i64 f.f2] 44) = W3
  have hb3 : Below w2.heap.size w2 W3 := by rw [← hW]; exact below_alloc (Below.refl _ _) _
  have hx3 : W3.heap[w2.heap.size]? = some (.cells #[.int .i64 f.f0, .int .i64 f.f1, .int .i64 f.f2] 44 (0, 0)) := by rw [← hW]; exact new_blk _ _ _
  rw [HF1.out, HF2.out] at hx3
  have h3 := H2.out.grow hb3
  have z1 := (h3.cellB n hn).2.1
  have f1 := blk_frozen h3.b (n * 4 + 1)
  have H3 := Aside0.mk h3
  have HX3 := Aside0.mk hx3
  have HK3 := Aside0.mk (HK2.out.trans (Keeps.of_below hb3))
  clear hW hb3 h3 hx3
  go_upto_region 9 with (fail)
  have h4 := H3.out.er n (wrap64 ((m.bk n).er + 1))
  have hk4 := HK3.out.set H3.out.b (by decide) (n * 4 + 1) (.int .i64 (wrap64 ((m.bk n).er + 1)))
  change St w0 (W3.setCell ⟨gb, n * 4 + 1, none⟩ (.int .i64 (wrap64 ((m.bk n).er + 1)))) gc gb gp _ D at h4
  have hx4 := blk_far (p := ⟨gb, n * 4 + 1, none⟩) HX3.out (ne_of_type HX3.out H3.out.b (by decide)) (.int .i64 (wrap64 ((m.bk n).er + 1)))
  generalize W3.setCell ⟨gb, n * 4 + 1, none⟩ (.int .i64 (wrap64 ((m.bk n).er + 1))) = W4 at h4 hk4 hx4 ⊢
  have x1 := Joins.cell_of_block hx4 1
  have fo := blk_frozen h4.c 7
  have co := h4.cellC 7
  have H4 := Aside0.mk h4
  have HK4 := Aside0.mk hk4
  have HX4 := Aside0.mk hx4
  clear z1 f1 h4 hk4 hx4
  go_upto_region 16 with (fail)
  generalize hW : W4.setCell ⟨gc, 7, none⟩ (.bool true) = W5
  have h5 := H4.out.setC 7 (.bool true) (m' := { (({ m with ops := wrap64 (m.ops + 1) } : Ch).setBk n { m.bk n with er := wrap64 ((m.bk n).er + 1) }) with off := true }) rfl rfl H4.out.pln
  rw [hW] at h5
  have hk5 : Keeps W W5 := by rw [← hW]; exact HK4.out.set H4.out.c (by decide) _ _
  have hx5 : W5.heap[w2.heap.size]? = some (.cells #[.int .i64 f.f0, .int .i64 1, .int .i64 0] 44 (0, 0)) := by rw [← hW]; exact blk_far HX4.out (ne_of_type HX4.out H4.out.c (by decide)) _
  have x2 := Joins.cell_of_block hx5 2
  have H5 := Aside0.mk h5
  have HK5 := Aside0.mk hk5
  clear hW h5 hk5 hx5 x1 fo co
  go_wp2
  go_ret
  exact ⟨rfl, H5.out, HK5.out⟩
set_option maxRecDepth 100000 in
set_option maxHeartbeats 8000000 in
theorem erase_cut1 (h : St w0 W gc gb gp m D) (hoff : m.off = false) (f : S44) (hplan : m.pl = [f]) (hf0 : f.f0 = wrap64 (wrap64 (m.ops + 1) - m.frm)) (hf1 : f.f1 = 1) (hf2 : f.f2 = 1) (n : Nat) (hn : n < 16) (hbad : (m.bk n).bad = false) :
    Calls Try.prog 12 #[cp gc, .int .i64 n] W fun e w' => e = .returned (.int .i64 6) ∧ St w0 w' gc gb gp (({ m with ops := wrap64 (m.ops + 1), off := true } : Ch).setBk n { clr 2 16 { m.bk n with er := wrap64 ((m.bk n).er + 1) } with nx := 16 }) (clrD D n 16) ∧ Keeps W w' := by
  have HRY := Aside0.mk (ready_yes h hoff n hn)
  have H := Aside0.mk h
  have HPL := Aside0.mk hplan
  have HF0 := Aside0.mk hf0
  have HF1 := Aside0.mk hf1
  have HF2 := Aside0.mk hf2
  have HBD := Aside0.mk hbad
  have hu44 := Try.underlying44
  clear h hoff hplan hf0 hf1 hf2 hbad
  go_enter Try.func12, Try.ntmps12
  go_upto_region 7 with (first
    | (go_at_call 27; (with_reducible refine HRY.out.mono ?_); rintro e w1 ⟨rfl, hb1⟩; have h1 := H.out.grow hb1; have H1 := Aside0.mk h1; have HB1 := Aside0.mk hb1; have z0 := (h1.cellB n hn).1; rw [HBD.out] at z0; clear hb1 h1))
  clear z0
  have HBN := Aside0.mk (begin_hit H1.out f HPL.out HF0.out)
  go_upto_region 8 with (first
    | (go_at_call 29; (with_reducible refine HBN.out.mono ?_); rintro e w2 ⟨rfl, h2, hk2⟩; have H2 := Aside0.mk h2; have HK2 := Aside0.mk ((Keeps.of_below HB1.out).trans hk2); clear h2 hk2))
  generalize hW : w2.alloc (.cells #[.int .i64 f.f0, .int .i64 f.f1, .int .i64 f.f2] 44) = W3
  have hb3 : Below w2.heap.size w2 W3 := by rw [← hW]; exact below_alloc (Below.refl _ _) _
  have hx3 : W3.heap[w2.heap.size]? = some (.cells #[.int .i64 f.f0, .int .i64 f.f1, .int .i64 f.f2] 44 (0, 0)) := by rw [← hW]; exact new_blk _ _ _
  rw [HF1.out, HF2.out] at hx3
  have h3 := H2.out.grow hb3
  have z1 := (h3.cellB n hn).2.1
  have f1 := blk_frozen h3.b (n * 4 + 1)
  have H3 := Aside0.mk h3
  have HX3 := Aside0.mk hx3
  have HK3 := Aside0.mk (HK2.out.trans (Keeps.of_below hb3))
  clear hW hb3 h3 hx3
  go_upto_region 9 with (fail)
  have h4 := H3.out.er n (wrap64 ((m.bk n).er + 1))
  have hk4 := HK3.out.set H3.out.b (by decide) (n * 4 + 1) (.int .i64 (wrap64 ((m.bk n).er + 1)))
  change St w0 (W3.setCell ⟨gb, n * 4 + 1, none⟩ (.int .i64 (wrap64 ((m.bk n).er + 1)))) gc gb gp _ D at h4
  have hx4 := blk_far (p := ⟨gb, n * 4 + 1, none⟩) HX3.out (ne_of_type HX3.out H3.out.b (by decide)) (.int .i64 (wrap64 ((m.bk n).er + 1)))
  generalize W3.setCell ⟨gb, n * 4 + 1, none⟩ (.int .i64 (wrap64 ((m.bk n).er + 1))) = W4 at h4 hk4 hx4 ⊢
  have x1 := Joins.cell_of_block hx4 1
  have fo := blk_frozen h4.c 7
  have co := h4.cellC 7
  have H4 := Aside0.mk h4
  have HK4 := Aside0.mk hk4
  have HX4 := Aside0.mk hx4
  clear z1 f1 h4 hk4 hx4
  go_upto_region 16 with (fail)
  generalize hW : W4.setCell ⟨gc, 7, none⟩ (.bool true) = W5
  have h5 := H4.out.setC 7 (.bool true) (m' := { (({ m with ops := wrap64 (m.ops + 1) } : Ch).setBk n { m.bk n with er := wrap64 ((m.bk n).er + 1) }) with off := true }) rfl rfl H4.out.pln
  rw [hW] at h5
  have hk5 : Keeps W W5 := by rw [← hW]; exact HK4.out.set H4.out.c (by decide) _ _
  have hx5 : W5.heap[w2.heap.size]? = some (.cells #[.int .i64 f.f0, .int .i64 1, .int .i64 1] 44 (0, 0)) := by rw [← hW]; exact blk_far HX4.out (ne_of_type HX4.out H4.out.c (by decide)) _
  have x2 := Joins.cell_of_block hx5 2
  have H5 := Aside0.mk h5
  have HK5 := Aside0.mk hk5
  clear hW h5 hk5 hx5 x1 fo co
  have HCL := Aside0.mk (spoil_is H5.out n hn)
  go_wp2_with (first
    | (go_at_call 32; (with_reducible refine HCL.out.mono ?_); rintro e w6 ⟨rfl, h6, hk6⟩; have H6 := Aside0.mk h6; have HK6 := Aside0.mk (HK5.out.trans hk6); clear h6 hk6))
  go_ret
  have h7 := H6.out
  have e2 : ∀ b1 b2 : Bk, (fun x => if x = n then b2 else if x = n then b1 else m.bk x) = (fun x => if x = n then b2 else m.bk x) := fun b1 b2 => by
    funext x
    by_cases hx : x = n <;> simp [hx]
  exact ⟨rfl, by simpa [Ch.setBk, e2] using h7, HK6.out⟩
set_option maxRecDepth 100000 in
set_option maxHeartbeats 8000000 in
theorem erase_cut2 (h : St w0 W gc gb gp m D) (hoff : m.off = false) (f : S44) (hplan : m.pl = [f]) (hf0 : f.f0 = wrap64 (wrap64 (m.ops + 1) - m.frm)) (hf1 : f.f1 = 1) (hf2 : f.f2 = 2) (n : Nat) (hn : n < 16) (hbad : (m.bk n).bad = false) :
    Calls Try.prog 12 #[cp gc, .int .i64 n] W fun e w' => e = .returned (.int .i64 6) ∧ St w0 w' gc gb gp (({ m with ops := wrap64 (m.ops + 1), off := true } : Ch).setBk n { clr 0 16 { m.bk n with er := wrap64 ((m.bk n).er + 1) } with nx := 0 }) (clrD D n 16) ∧ Keeps W w' := by
  have HRY := Aside0.mk (ready_yes h hoff n hn)
  have H := Aside0.mk h
  have HPL := Aside0.mk hplan
  have HF0 := Aside0.mk hf0
  have HF1 := Aside0.mk hf1
  have HF2 := Aside0.mk hf2
  have HBD := Aside0.mk hbad
  have hu44 := Try.underlying44
  clear h hoff hplan hf0 hf1 hf2 hbad
  go_enter Try.func12, Try.ntmps12
  go_upto_region 7 with (first
    | (go_at_call 27; (with_reducible refine HRY.out.mono ?_); rintro e w1 ⟨rfl, hb1⟩; have h1 := H.out.grow hb1; have H1 := Aside0.mk h1; have HB1 := Aside0.mk hb1; have z0 := (h1.cellB n hn).1; rw [HBD.out] at z0; clear hb1 h1))
  clear z0
  have HBN := Aside0.mk (begin_hit H1.out f HPL.out HF0.out)
  go_upto_region 8 with (first
    | (go_at_call 29; (with_reducible refine HBN.out.mono ?_); rintro e w2 ⟨rfl, h2, hk2⟩; have H2 := Aside0.mk h2; have HK2 := Aside0.mk ((Keeps.of_below HB1.out).trans hk2); clear h2 hk2))
  generalize hW : w2.alloc (.cells #[.int .i64 f.f0, .int .i64 f.f1, .int .i64 f.f2] 44) = W3
  have hb3 : Below w2.heap.size w2 W3 := by rw [← hW]; exact below_alloc (Below.refl _ _) _
  have hx3 : W3.heap[w2.heap.size]? = some (.cells #[.int .i64 f.f0, .int .i64 f.f1, .int .i64 f.f2] 44 (0, 0)) := by rw [← hW]; exact new_blk _ _ _
  rw [HF1.out, HF2.out] at hx3
  have h3 := H2.out.grow hb3
  have z1 := (h3.cellB n hn).2.1
  have f1 := blk_frozen h3.b (n * 4 + 1)
  have H3 := Aside0.mk h3
  have HX3 := Aside0.mk hx3
  have HK3 := Aside0.mk (HK2.out.trans (Keeps.of_below hb3))
  clear hW hb3 h3 hx3
  go_upto_region 9 with (fail)
  have h4 := H3.out.er n (wrap64 ((m.bk n).er + 1))
  have hk4 := HK3.out.set H3.out.b (by decide) (n * 4 + 1) (.int .i64 (wrap64 ((m.bk n).er + 1)))
  change St w0 (W3.setCell ⟨gb, n * 4 + 1, none⟩ (.int .i64 (wrap64 ((m.bk n).er + 1)))) gc gb gp _ D at h4
  have hx4 := blk_far (p := ⟨gb, n * 4 + 1, none⟩) HX3.out (ne_of_type HX3.out H3.out.b (by decide)) (.int .i64 (wrap64 ((m.bk n).er + 1)))
  generalize W3.setCell ⟨gb, n * 4 + 1, none⟩ (.int .i64 (wrap64 ((m.bk n).er + 1))) = W4 at h4 hk4 hx4 ⊢
  have x1 := Joins.cell_of_block hx4 1
  have fo := blk_frozen h4.c 7
  have co := h4.cellC 7
  have H4 := Aside0.mk h4
  have HK4 := Aside0.mk hk4
  have HX4 := Aside0.mk hx4
  clear z1 f1 h4 hk4 hx4
  go_upto_region 16 with (fail)
  generalize hW : W4.setCell ⟨gc, 7, none⟩ (.bool true) = W5
  have h5 := H4.out.setC 7 (.bool true) (m' := { (({ m with ops := wrap64 (m.ops + 1) } : Ch).setBk n { m.bk n with er := wrap64 ((m.bk n).er + 1) }) with off := true }) rfl rfl H4.out.pln
  rw [hW] at h5
  have hk5 : Keeps W W5 := by rw [← hW]; exact HK4.out.set H4.out.c (by decide) _ _
  have hx5 : W5.heap[w2.heap.size]? = some (.cells #[.int .i64 f.f0, .int .i64 1, .int .i64 2] 44 (0, 0)) := by rw [← hW]; exact blk_far HX4.out (ne_of_type HX4.out H4.out.c (by decide)) _
  have x2 := Joins.cell_of_block hx5 2
  have H5 := Aside0.mk h5
  have HK5 := Aside0.mk hk5
  clear hW h5 hk5 hx5 x1 fo co
  have HCL := Aside0.mk (clean_is H5.out n hn)
  go_wp2_with (first
    | (go_at_call 31; (with_reducible refine HCL.out.mono ?_); rintro e w6 ⟨rfl, h6, hk6⟩; have H6 := Aside0.mk h6; have HK6 := Aside0.mk (HK5.out.trans hk6); clear h6 hk6))
  go_ret
  have h7 := H6.out
  have e2 : ∀ b1 b2 : Bk, (fun x => if x = n then b2 else if x = n then b1 else m.bk x) = (fun x => if x = n then b2 else m.bk x) := fun b1 b2 => by
    funext x
    by_cases hx : x = n <;> simp [hx]
  exact ⟨rfl, by simpa [Ch.setBk, e2] using h7, HK6.out⟩
end Go.Proofs.Ytnhlfbkpohidpaa.PAll
