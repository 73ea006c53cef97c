/- What the law ScanOnce rests on, part 3: texts of the session and what the print wrote for it, one behind the other; only what the proof names is kept. -/
import Derived.Test.YtdlimghdimkadaaDoorQ2
import Derived.Deep.LoopGhost
namespace Go.Proofs.YtdlimghdimkadaaDoor.PAll
open Go.RowKit Go.Proofs.YtdlimghdimkadaaDoorW.PrintWords Go.Proofs.YtdlimghdimkadaaDoorW.PrintLast Go.Proofs.YtdlimghdimkadaaDoorW.PrintMore
set_option linter.unusedSimpArgs false
set_option linter.unusedVariables false
attribute [local go_sem] max2_int min2_int max_two min_two max_three min_three max_four min_four
variable {w0 W : World} {gc gb : Nat} {gp : Nat → Nat} {m : Ch} {D : Nat → Nat → List Int}
def pre (Z : Nat) (xs : List Int) (i : Nat) : List Int := (xs ++ List.replicate (i - xs.length) 255) ++ List.replicate (Z - i) 0
theorem pre_set (Z : Nat) (xs : List Int) (i : Nat) (h : xs.length ≤ i) (h2 : i < Z) : (pre Z xs i).set i 255 = pre Z xs (i + 1) := by
 unfold pre
 have e1 : (xs ++ List.replicate (i - xs.length) (255 : Int)).length = i := by simp; omega
 rw [List.set_append_right _ _ (by rw [e1]; exact Nat.le_refl _), e1, Nat.sub_self]
 rw [show Z - i = (Z - (i + 1)) + 1 by omega, List.replicate_succ, List.set_cons_zero]
 rw [show i + 1 - xs.length = (i - xs.length) + 1 by omega, List.replicate_succ', List.append_assoc, List.append_assoc, List.append_assoc]
 rfl
theorem pre_start (Z : Nat) (xs : List Int) (h : xs.length ≤ Z) : xs.take (min xs.length (List.replicate Z (0 : Int)).length) ++ (List.replicate Z (0 : Int)).drop (min xs.length (List.replicate Z (0 : Int)).length) = pre Z xs xs.length := by
 unfold pre
 rw [List.length_replicate, Nat.min_eq_left h, List.take_length, List.drop_replicate, Nat.sub_self, List.replicate_zero, List.append_nil]
theorem pre_end (Z : Nat) (xs : List Int) : pre Z xs Z = xs ++ List.replicate (Z - xs.length) 255 := by
 unfold pre; simp
set_option maxRecDepth 100000 in
set_option maxHeartbeats 8000000 in
theorem read_blank (h : St w0 W gc gb gp m D) (hoff : m.off = false) (n p : Nat) (hn : n < m.g.B) (hp : p < m.g.P) (hs1 : ((m.bk n).pg p).st ≠ 2) (hs2 : ((m.bk n).pg p).st ≠ 1) :
  Calls Tryd.prog 26 #[cp gc, .int .i64 n, .int .i64 p] W fun e w' => ∃ v : Value, e = .returned (.tuple #[v, .int .i64 0]) ∧ Kd.R kB 5 w' W.heap.size (fun _ => True) v (List.replicate m.g.Z 255) ∧ Below W.heap.size W w' := by
 have HRY := Aside0.mk (ready_yes h hoff n hn)
 have H := Aside0.mk h
 have hzz := h.gok.2.2
 have d1 : decide ((p : Int) < 0) = false := decide_eq_false (by omega)
 have d2 : decide ((m.g.P : Int) ≤ (p : Int)) = false := decide_eq_false (by omega)
 have d3 : decide (m.g.P ≤ p) = false := decide_eq_false (by omega)
 have hqp : ((p : Int) < (m.g.P : Int)) = True := eq_true (by omega)
 have hqp2 : (p < m.g.P) = True := eq_true hp
 have hu65 := Tryd.underlying88
 have e1 : (((m.bk n).pg p).st == (2 : Int)) = false := by simp only [beq_eq_false_iff_ne]; exact hs1
 have e2 : (((m.bk n).pg p).st == (1 : Int)) = false := by simp only [beq_eq_false_iff_ne]; exact hs2
 generalize hst : ((m.bk n).pg p).st = st at e1 e2
 have HS := Aside0.mk hst
 clear hst hs1 hs2
 clear h hoff
 obtain ⟨Z, hZ⟩ : ∃ Z, m.g.Z = Z := ⟨_, rfl⟩
 rw [hZ] at hzz ⊢
 go_enter Tryd.func26, Tryd.ntmps26
 go_upto_region 6 with (first
  | (go_at_call 33; (with_reducible refine HRY.out.mono ?_); rintro e w1 ⟨rfl, hb1⟩; have h1 := H.out.grow hb1; have H1 := Aside0.mk h1; have HB1 := Aside0.mk hb1; obtain ⟨z0, z1, z2, z3⟩ := h1.cellB n hn; have y2 : w1.cell? ⟨gc, 2, none⟩ = some (.int .i64 Z) := (by rw [← hZ]; exact h1.cellC 2); clear hb1 h1))
 clear z0 z1 z3
 go_upto_region 7 with (first
  | ((with_reducible refine gate_dst (N := 39) rfl ?_); refine Kd.R_make kB (w0 := w1) w1.heap.size 5 ?hg (N := 39) ?hd 39 _ _ rfl (Z : Int) ?hx ?hy Tryd.underlying39 (.int .u8 0) 1 info5' rfl Nat.zero_lt_one Nat.zero_lt_one 0 (ok := fun _ => True) (okp := fun _ => True) rfl (fun _ hk => hk) trivial ?hn0 ?hn1 (Below.refl _ _) (Nat.le_refl _) ?_; (case hd => rfl); (case hg => rfl); (case hx => go_simp); (case hy => go_simp); (case hn0 => omega); (case hn1 => omega); intro v2 w2 ho hb _ _; rw [Int.toNat_natCast] at ho; have HO := Aside0.mk ho; have HB := Aside0.mk hb; clear ho hb))
 clear z2 y2
 obtain ⟨g2, c2, ev2, hg2, hl2, _⟩ := Kd.R_form HO.out (by rw [List.length_replicate]; omega)
 simp only [List.length_replicate] at ev2
 subst ev2
 have h2 := H1.out.grow HB.out
 obtain ⟨_, _, z2, _⟩ := h2.cellB n hn
 obtain ⟨q0, q1⟩ := h2.cellP n hn p hp
 rw [HS.out] at q0
 have HD := Aside0.mk (h2.d n p hn hp)
 obtain ⟨Ad, cd, ed⟩ := Kd.R_slice (h2.d n p hn hp)
 rw [ed] at q1 HD
 clear ed
 have H2 := Aside0.mk h2
 have HG2 := Aside0.mk hg2
 have HL2 := Aside0.mk hl2
 clear h2 hg2 hl2
 go_upto_region 8 with (fail)
 generalize hW : (w2.alloc (.cells #[.int .i64 st, .slice Ad (D n p).length cd] 88)) = W3
 have hb3 : Below w2.heap.size w2 W3 := by rw [← hW]; exact below_alloc (Below.refl _ _) _
 have hx : W3.heap[w2.heap.size]? = some (.cells #[.int .i64 st, .slice Ad (D n p).length cd] 88 (0, 0)) := by rw [← hW]; exact new_blk _ _ _
 have x0 := Joins.cell_of_block hx 0
 have x1 := Joins.cell_of_block hx 1
 have HO3 := Aside0.mk (Kd.R_below HO.out hb3)
 have HB3 := Aside0.mk (below_step HB1.out (below_step HB.out hb3))
 have HB23 := Aside0.mk hb3
 have HB13 := Aside0.mk (below_step HB.out hb3)
 have H3 := Aside0.mk (H2.out.grow hb3)
 clear hW hb3 hx z2 q0 q1
 go_wp2
 go_loopw [51] (fun v51 wr => ∃ i : Nat, 0 ≤ i ∧ i ≤ Z ∧ v51 = .int .i64 i ∧ Aside0 (Kd.R kB 5 wr w1.heap.size (fun _ => True) (.slice (some ⟨g2, 0, none⟩) Z c2) (pre Z [] i)) ∧ Aside0 (Below W.heap.size W wr)) (fun i _ => Z - (intOf i).toNat)
 case atStart => exact ⟨0, Nat.le_refl _, by omega, rfl, HO3, HB3⟩
 case round =>
  obtain ⟨i, hli, hi, rfl, HR, HBr⟩ := hrel
  by_cases hlt : i < Z
  ·have d0 : decide ((i : Int) < (Z : Int)) = true := decide_eq_true (by omega)
   have hq : (i < Z) = True := eq_true hlt
   have hqi : ((i : Int) < (Z : Int)) = True := eq_true (by omega)
   obtain ⟨k1, k2⟩ := Kd.R_celln 0 HR.out (i : Int) (by omega) (by omega)
   simp only [Int.toNat_natCast] at k1 k2
   have h9 := Kd.R_putn HR.out (i : Int) 255
   simp only [Int.toNat_natCast] at h9
   rw [pre_set Z [] i (Nat.zero_le _) hlt] at h9
   have hb9 : Below W.heap.size W (wr.setCell ⟨g2, i, none⟩ (.int .u8 255)) := below_set HBr.out (Nat.le_trans (below_size HB1.out) HG2.out)
   have HR9 := Aside0.mk h9
   have HB9 := Aside0.mk hb9
   clear h9 hb9
   go_wp2
   go_roundw
   case rel => exact ⟨i + 1, by omega, by omega, by push_cast; rfl, HR9, HB9⟩
   case measure => simp [intOf]; omega
  ·obtain rfl : i = Z := by omega
   have d0 : decide ((i : Int) < (i : Int)) = false := decide_eq_false (by omega)
   go_wp2
   go_ret2
   have hfin := Kd.R_lower HR.out (below_size HB1.out)
   rw [pre_end] at hfin
   exact ⟨_, rfl, hfin, HBr.out⟩
set_option maxRecDepth 100000 in
set_option maxHeartbeats 8000000 in
theorem read_data (h : St w0 W gc gb gp m D) (hoff : m.off = false) (n p : Nat) (hn : n < m.g.B) (hp : p < m.g.P) (hst : ((m.bk n).pg p).st = 1) (hl : (D n p).length ≤ m.g.Z) :
  Calls Tryd.prog 26 #[cp gc, .int .i64 n, .int .i64 p] W fun e w' => ∃ v : Value, e = .returned (.tuple #[v, .int .i64 0]) ∧ Kd.R kB 5 w' W.heap.size (fun _ => True) v (D n p ++ List.replicate (m.g.Z - (D n p).length) 255) ∧ Below W.heap.size W w' := by
 have HRY := Aside0.mk (ready_yes h hoff n hn)
 have H := Aside0.mk h
 have hzz := h.gok.2.2
 have d1 : decide ((p : Int) < 0) = false := decide_eq_false (by omega)
 have d2 : decide ((m.g.P : Int) ≤ (p : Int)) = false := decide_eq_false (by omega)
 have d3 : decide (m.g.P ≤ p) = false := decide_eq_false (by omega)
 have hqp : ((p : Int) < (m.g.P : Int)) = True := eq_true (by omega)
 have hqp2 : (p < m.g.P) = True := eq_true hp
 have hu65 := Tryd.underlying88
 have HS := Aside0.mk hst
 clear hst
 clear h hoff
 obtain ⟨Z, hZ⟩ : ∃ Z, m.g.Z = Z := ⟨_, rfl⟩
 rw [hZ] at hzz hl ⊢
 go_enter Tryd.func26, Tryd.ntmps26
 go_upto_region 6 with (first
  | (go_at_call 33; (with_reducible refine HRY.out.mono ?_); rintro e w1 ⟨rfl, hb1⟩; have h1 := H.out.grow hb1; have H1 := Aside0.mk h1; have HB1 := Aside0.mk hb1; obtain ⟨z0, z1, z2, z3⟩ := h1.cellB n hn; have y2 : w1.cell? ⟨gc, 2, none⟩ = some (.int .i64 Z) := (by rw [← hZ]; exact h1.cellC 2); clear hb1 h1))
 clear z0 z1 z3
 go_upto_region 7 with (first
  | ((with_reducible refine gate_dst (N := 39) rfl ?_); refine Kd.R_make kB (w0 := w1) w1.heap.size 5 ?hg (N := 39) ?hd 39 _ _ rfl (Z : Int) ?hx ?hy Tryd.underlying39 (.int .u8 0) 1 info5' rfl Nat.zero_lt_one Nat.zero_lt_one 0 (ok := fun _ => True) (okp := fun _ => True) rfl (fun _ hk => hk) trivial ?hn0 ?hn1 (Below.refl _ _) (Nat.le_refl _) ?_; (case hd => rfl); (case hg => rfl); (case hx => go_simp); (case hy => go_simp); (case hn0 => omega); (case hn1 => omega); intro v2 w2 ho hb _ _; rw [Int.toNat_natCast] at ho; have HO := Aside0.mk ho; have HB := Aside0.mk hb; clear ho hb))
 clear z2 y2
 obtain ⟨g2, c2, ev2, hg2, hl2, _⟩ := Kd.R_form HO.out (by rw [List.length_replicate]; omega)
 simp only [List.length_replicate] at ev2
 subst ev2
 have h2 := H1.out.grow HB.out
 obtain ⟨_, _, z2, _⟩ := h2.cellB n hn
 obtain ⟨q0, q1⟩ := h2.cellP n hn p hp
 rw [HS.out] at q0
 have HD := Aside0.mk (h2.d n p hn hp)
 obtain ⟨Ad, cd, ed⟩ := Kd.R_slice (h2.d n p hn hp)
 rw [ed] at q1 HD
 clear ed
 have H2 := Aside0.mk h2
 have HG2 := Aside0.mk hg2
 have HL2 := Aside0.mk hl2
 clear h2 hg2 hl2
 go_upto_region 8 with (fail)
 generalize hW : (w2.alloc (.cells #[.int .i64 1, .slice Ad (D n p).length cd] 88)) = W3
 have hb3 : Below w2.heap.size w2 W3 := by rw [← hW]; exact below_alloc (Below.refl _ _) _
 have hx : W3.heap[w2.heap.size]? = some (.cells #[.int .i64 1, .slice Ad (D n p).length cd] 88 (0, 0)) := by rw [← hW]; exact new_blk _ _ _
 have x0 := Joins.cell_of_block hx 0
 have x1 := Joins.cell_of_block hx 1
 have HO3 := Aside0.mk (Kd.R_below HO.out hb3)
 have HB3 := Aside0.mk (below_step HB1.out (below_step HB.out hb3))
 have HB23 := Aside0.mk hb3
 have HB13 := Aside0.mk (below_step HB.out hb3)
 have H3 := Aside0.mk (H2.out.grow hb3)
 clear hW hb3 hx z2 q0 q1
 have HLL := Aside0.mk hl
 go_wp2_with (first
  | ((with_reducible refine gate_builtin (b := .copy) (xs := #[.tmp 62, .tmp 64]) rfl ?_); refine Kd.R_copy (enc := Value.int .u8) (h1 := fun _ => rfl) 0 (w0 := w1) w1.heap.size rfl (.tmp 62) (.tmp 64) 39 39 5 rfl Tryd.underlying39 (by kernel_rfl) (.slice (some ⟨g2, 0, none⟩) Z c2) (List.replicate Z 0) (D n p) Ad (D n p).length cd (fun _ => True) rfl rfl HO3.out ?aR ?aB ?aS ?_; (case aR => exact (Kd.R_reads' (Kd.R_below HD.out HB23.out)).2.2); (case aB => exact HB13.out); (case aS => exact below_size HB13.out); intro w4 ho hb hg; rw [pre_start Z _ HLL.out] at ho; have HO4 := Aside0.mk ho; have x1' := hg.cell x1 ?xr; (case xr => simp [Value.ownBlock]; exact Ne.symm (Nat.ne_of_lt HL2.out)); have HB4 := Aside0.mk (below_step HB1.out hb); clear ho hb hg))
 go_loopw [12] (fun v51 wr => ∃ i : Nat, (D n p).length ≤ i ∧ i ≤ Z ∧ v51 = .int .i64 i ∧ Aside0 (Kd.R kB 5 wr w1.heap.size (fun _ => True) (.slice (some ⟨g2, 0, none⟩) Z c2) (pre Z (D n p) i)) ∧ Aside0 (Below W.heap.size W wr)) (fun i _ => Z - (intOf i).toNat)
 case atStart => exact ⟨(D n p).length, Nat.le_refl _, HLL.out, rfl, HO4, HB4⟩
 case round =>
  obtain ⟨i, hli, hi, rfl, HR, HBr⟩ := hrel
  by_cases hlt : i < Z
  ·have d0 : decide ((i : Int) < (Z : Int)) = true := decide_eq_true (by omega)
   have hq : (i < Z) = True := eq_true hlt
   have hqi : ((i : Int) < (Z : Int)) = True := eq_true (by omega)
   obtain ⟨k1, k2⟩ := Kd.R_celln 0 HR.out (i : Int) (by omega) (by omega)
   simp only [Int.toNat_natCast] at k1 k2
   have h9 := Kd.R_putn HR.out (i : Int) 255
   simp only [Int.toNat_natCast] at h9
   rw [pre_set Z (D n p) i hli hlt] at h9
   have hb9 : Below W.heap.size W (wr.setCell ⟨g2, i, none⟩ (.int .u8 255)) := below_set HBr.out (Nat.le_trans (below_size HB1.out) HG2.out)
   have HR9 := Aside0.mk h9
   have HB9 := Aside0.mk hb9
   clear h9 hb9
   go_wp2
   go_roundw
   case rel => exact ⟨i + 1, by omega, by omega, by push_cast; rfl, HR9, HB9⟩
   case measure => simp [intOf]; omega
  ·obtain rfl : i = Z := by omega
   have d0 : decide ((i : Int) < (i : Int)) = false := decide_eq_false (by omega)
   go_wp2
   go_ret2
   have hfin := Kd.R_lower HR.out (below_size HB1.out)
   rw [pre_end] at hfin
   exact ⟨_, rfl, hfin, HBr.out⟩
set_option maxRecDepth 100000 in
set_option maxHeartbeats 8000000 in
theorem read_torn (h : St w0 W gc gb gp m D) (hoff : m.off = false) (n p : Nat) (hn : n < m.g.B) (hp : p < m.g.P) (hst : ((m.bk n).pg p).st = 2) :
  Calls Tryd.prog 26 #[cp gc, .int .i64 n, .int .i64 p] W fun e w' => e = .returned (.tuple #[.slice none 0 0, .int .i64 5]) ∧ Below W.heap.size W w' := by
 have HRY := Aside0.mk (ready_yes h hoff n hn)
 have H := Aside0.mk h
 have hzz := h.gok.2.2
 have d1 : decide ((p : Int) < 0) = false := decide_eq_false (by omega)
 have d2 : decide ((m.g.P : Int) ≤ (p : Int)) = false := decide_eq_false (by omega)
 have d3 : decide (m.g.P ≤ p) = false := decide_eq_false (by omega)
 have hqp : ((p : Int) < (m.g.P : Int)) = True := eq_true (by omega)
 have hqp2 : (p < m.g.P) = True := eq_true hp
 have hu65 := Tryd.underlying88
 have HS := Aside0.mk hst
 clear hst
 clear h hoff
 obtain ⟨Z, hZ⟩ : ∃ Z, m.g.Z = Z := ⟨_, rfl⟩
 rw [hZ] at hzz
 go_enter Tryd.func26, Tryd.ntmps26
 go_upto_region 6 with (first
  | (go_at_call 33; (with_reducible refine HRY.out.mono ?_); rintro e w1 ⟨rfl, hb1⟩; have h1 := H.out.grow hb1; have H1 := Aside0.mk h1; have HB1 := Aside0.mk hb1; obtain ⟨z0, z1, z2, z3⟩ := h1.cellB n hn; have y2 : w1.cell? ⟨gc, 2, none⟩ = some (.int .i64 Z) := (by rw [← hZ]; exact h1.cellC 2); clear hb1 h1))
 clear z0 z1 z3
 go_upto_region 7 with (first
  | ((with_reducible refine gate_dst (N := 39) rfl ?_); refine Kd.R_make kB (w0 := w1) w1.heap.size 5 ?hg (N := 39) ?hd 39 _ _ rfl (Z : Int) ?hx ?hy Tryd.underlying39 (.int .u8 0) 1 info5' rfl Nat.zero_lt_one Nat.zero_lt_one 0 (ok := fun _ => True) (okp := fun _ => True) rfl (fun _ hk => hk) trivial ?hn0 ?hn1 (Below.refl _ _) (Nat.le_refl _) ?_; (case hd => rfl); (case hg => rfl); (case hx => go_simp); (case hy => go_simp); (case hn0 => omega); (case hn1 => omega); intro v2 w2 ho hb _ _; rw [Int.toNat_natCast] at ho; have HO := Aside0.mk ho; have HB := Aside0.mk hb; clear ho hb))
 clear z2 y2
 obtain ⟨g2, c2, ev2, hg2, hl2, _⟩ := Kd.R_form HO.out (by rw [List.length_replicate]; omega)
 simp only [List.length_replicate] at ev2
 subst ev2
 have h2 := H1.out.grow HB.out
 obtain ⟨_, _, z2, _⟩ := h2.cellB n hn
 obtain ⟨q0, q1⟩ := h2.cellP n hn p hp
 rw [HS.out] at q0
 have HD := Aside0.mk (h2.d n p hn hp)
 obtain ⟨Ad, cd, ed⟩ := Kd.R_slice (h2.d n p hn hp)
 rw [ed] at q1 HD
 clear ed
 have H2 := Aside0.mk h2
 have HG2 := Aside0.mk hg2
 have HL2 := Aside0.mk hl2
 clear h2 hg2 hl2
 go_upto_region 8 with (fail)
 generalize hW : (w2.alloc (.cells #[.int .i64 2, .slice Ad (D n p).length cd] 88)) = W3
 have hb3 : Below w2.heap.size w2 W3 := by rw [← hW]; exact below_alloc (Below.refl _ _) _
 have hx : W3.heap[w2.heap.size]? = some (.cells #[.int .i64 2, .slice Ad (D n p).length cd] 88 (0, 0)) := by rw [← hW]; exact new_blk _ _ _
 have x0 := Joins.cell_of_block hx 0
 have x1 := Joins.cell_of_block hx 1
 have HO3 := Aside0.mk (Kd.R_below HO.out hb3)
 have HB3 := Aside0.mk (below_step HB1.out (below_step HB.out hb3))
 have HB23 := Aside0.mk hb3
 have HB13 := Aside0.mk (below_step HB.out hb3)
 have H3 := Aside0.mk (H2.out.grow hb3)
 clear hW hb3 hx z2 q0 q1
 go_wp2
 go_ret2
 exact ⟨rfl, HB3.out⟩
end Go.Proofs.YtdlimghdimkadaaDoor.PAll
namespace Go.Proofs.YtdlimghdimkadaaDoor.PAll
open Go.RowKit Go.Proofs.YtdlimghdimkadaaDoorW.PrintWords Go.Proofs.YtdlimghdimkadaaDoorW.PrintLast Go.Proofs.YtdlimghdimkadaaDoorW.PrintMore
set_option linter.unusedSimpArgs false
set_option linter.unusedVariables false
attribute [local go_sem] max2_int min2_int max_two min_two max_three min_three max_four min_four
variable {w0 W : World} {gc gb : Nat} {gp : Nat → Nat} {m : Ch} {D : Nat → Nat → List Int}
def clr (st : Int) (i : Nat) (b : Bk) : Bk := { b with pg := fun x => if x < i then ⟨st, .slice none 0 0⟩ else b.pg x }
def clrD (D : Nat → Nat → List Int) (n i : Nat) : Nat → Nat → List Int := fun x y => if x = n ∧ y < i then [] else D x y
theorem clr_zero (st : Int) (b : Bk) : clr st 0 b = b := by unfold clr; simp
theorem clrD_zero (D : Nat → Nat → List Int) (n : Nat) : clrD D n 0 = D := by funext x y; unfold clrD; simp
theorem setBk_id (m : Ch) (n : Nat) : m.setBk n (m.bk n) = m := by
 unfold Ch.setBk
 congr 1
 funext x
 by_cases h : x = n
 ·subst h; simp
 ·simp [h]
theorem clr_succ (st : Int) (i : Nat) (b : Bk) : (clr st i b).setPg i ⟨st, .slice none 0 0⟩ = clr st (i + 1) b := by
 unfold clr Bk.setPg
 congr 1
 funext x
 by_cases h : x = i
 ·subst h; simp
 ·by_cases h2 : x < i
  ·simp [h, h2, show x < i + 1 by omega]
  ·simp [h, h2, show ¬ x < i + 1 by omega]
theorem clrD_succ (D : Nat → Nat → List Int) (n i : Nat) : updD (clrD D n i) n i [] = clrD D n (i + 1) := by
 funext x y
 unfold clrD updD
 by_cases h : x = n
 ·subst h
  by_cases h2 : y = i
  ·subst h2; simp
  ·by_cases h3 : y < i
   ·simp [h2, h3, show y < i + 1 by omega]
   ·simp [h2, h3, show ¬ y < i + 1 by omega]
 ·simp [h]
set_option maxRecDepth 100000 in
set_option maxHeartbeats 8000000 in
theorem clean_is (h : St w0 W gc gb gp m D) (n : Nat) (hn : n < m.g.B) : Calls Tryd.prog 64 #[bp gb n] W fun e w' => e = .returned (.tuple #[]) ∧ St w0 w' gc gb gp (m.setBk n { clr 0 m.g.P (m.bk n) with nx := 0 }) (clrD D n m.g.P) ∧ Keeps W w' := by
 have H := Aside0.mk h
 have z2 := (h.cellB n hn).2.2.1
 have hzz := h.gok.2.1
 clear h
 go_enter Tryd.func64, Tryd.ntmps64
 go_upto_region 1 with (fail)
 go_loopw [8] (fun v8 wr => ∃ i : Nat, i ≤ m.g.P ∧ v8 = .int .i64 i ∧ Aside0 (St w0 wr gc gb gp (m.setBk n (clr 0 i (m.bk n))) (clrD D n i)) ∧ Aside0 (Keeps W wr)) (fun i _ => m.g.P - (intOf i).toNat)
 case atStart => exact ⟨0, Nat.zero_le _, rfl, ⟨by rw [clr_zero, setBk_id, clrD_zero]; exact H.out⟩, ⟨Keeps.refl _⟩⟩
 case round =>
  obtain ⟨i, hi, rfl, HR, HK⟩ := hrel
  clear z2
  have z2 := (HR.out.cellB n hn).2.2.1
  change wr.cell? ⟨gb, n * 4 + 2, none⟩ = some (.slice (some ⟨gp n, 0, none⟩) m.g.P m.g.P) at z2
  by_cases hlt : i < m.g.P
  ·have d0 : decide ((i : Int) < (m.g.P : Int)) = true := decide_eq_true (by omega)
   have hq : (i < m.g.P) = True := eq_true hlt
   have hqi : ((i : Int) < (m.g.P : Int)) = True := eq_true (by omega)
   have f0 := blk_frozen (HR.out.p n hn) (i * 2)
   have f1 := blk_frozen (HR.out.p n hn) (i * 2 + 1)
   obtain ⟨q0, q1⟩ := HR.out.cellP n hn i hlt
   have h9 := HR.out.page n hn i hlt 0 (.slice none 0 0) [] (Kd.R_nil _ _ _ _ _)
   rw [setBk_self, setBk_twice, clr_succ, clrD_succ] at h9
   have hk9 := (HK.out.set (HR.out.p n hn) (by decide) (i * 2) (.int .i64 0)).set (blk_set (HR.out.p n hn) (i * 2) (.int .i64 0)) (by decide) (i * 2 + 1) (.slice none 0 0)
   have H9 := Aside0.mk h9
   have HK9 := Aside0.mk hk9
   clear h9 hk9
   go_wp2
   go_roundw
   case rel => exact ⟨i + 1, by omega, by push_cast; rfl, H9, HK9⟩
   case measure => simp [intOf]; omega
  ·obtain rfl : i = m.g.P := by omega
   have d0 : decide ((m.g.P : Int) < (m.g.P : Int)) = false := decide_eq_false (by omega)
   have f3 := blk_frozen HR.out.b (n * 4 + 3)
   have z3 := (HR.out.cellB n hn).2.2.2
   go_wp2
   go_end0
   have h9 := HR.out.nx n 0
   rw [setBk_self, setBk_twice] at h9
   exact ⟨rfl, h9, HK.out.set HR.out.b (by decide) _ _⟩
set_option maxRecDepth 100000 in
set_option maxHeartbeats 8000000 in
theorem spoil_is (h : St w0 W gc gb gp m D) (n : Nat) (hn : n < m.g.B) : Calls Tryd.prog 65 #[bp gb n] W fun e w' => e = .returned (.tuple #[]) ∧ St w0 w' gc gb gp (m.setBk n { clr 2 m.g.P (m.bk n) with nx := (m.g.P : Int) }) (clrD D n m.g.P) ∧ Keeps W w' := by
 have H := Aside0.mk h
 have z2 := (h.cellB n hn).2.2.1
 have hzz := h.gok.2.1
 clear h
 go_enter Tryd.func65, Tryd.ntmps65
 go_upto_region 1 with (fail)
 go_loopw [8] (fun v8 wr => ∃ i : Nat, i ≤ m.g.P ∧ v8 = .int .i64 i ∧ Aside0 (St w0 wr gc gb gp (m.setBk n (clr 2 i (m.bk n))) (clrD D n i)) ∧ Aside0 (Keeps W wr)) (fun i _ => m.g.P - (intOf i).toNat)
 case atStart => exact ⟨0, Nat.zero_le _, rfl, ⟨by rw [clr_zero, setBk_id, clrD_zero]; exact H.out⟩, ⟨Keeps.refl _⟩⟩
 case round =>
  obtain ⟨i, hi, rfl, HR, HK⟩ := hrel
  clear z2
  have z2 := (HR.out.cellB n hn).2.2.1
  change wr.cell? ⟨gb, n * 4 + 2, none⟩ = some (.slice (some ⟨gp n, 0, none⟩) m.g.P m.g.P) at z2
  by_cases hlt : i < m.g.P
  ·have d0 : decide ((i : Int) < (m.g.P : Int)) = true := decide_eq_true (by omega)
   have hq : (i < m.g.P) = True := eq_true hlt
   have hqi : ((i : Int) < (m.g.P : Int)) = True := eq_true (by omega)
   have f0 := blk_frozen (HR.out.p n hn) (i * 2)
   have f1 := blk_frozen (HR.out.p n hn) (i * 2 + 1)
   obtain ⟨q0, q1⟩ := HR.out.cellP n hn i hlt
   have h9 := HR.out.page n hn i hlt 2 (.slice none 0 0) [] (Kd.R_nil _ _ _ _ _)
   rw [setBk_self, setBk_twice, clr_succ, clrD_succ] at h9
   have hk9 := (HK.out.set (HR.out.p n hn) (by decide) (i * 2) (.int .i64 2)).set (blk_set (HR.out.p n hn) (i * 2) (.int .i64 2)) (by decide) (i * 2 + 1) (.slice none 0 0)
   have H9 := Aside0.mk h9
   have HK9 := Aside0.mk hk9
   clear h9 hk9
   go_wp2
   go_roundw
   case rel => exact ⟨i + 1, by omega, by push_cast; rfl, H9, HK9⟩
   case measure => simp [intOf]; omega
  ·obtain rfl : i = m.g.P := by omega
   have d0 : decide ((m.g.P : Int) < (m.g.P : Int)) = false := decide_eq_false (by omega)
   have f3 := blk_frozen HR.out.b (n * 4 + 3)
   have z3 := (HR.out.cellB n hn).2.2.2
   go_wp2
   go_end0
   have h9 := HR.out.nx n (m.g.P : Int)
   rw [setBk_self, setBk_twice] at h9
   exact ⟨rfl, h9, HK.out.set HR.out.b (by decide) _ _⟩
set_option maxRecDepth 100000 in
set_option maxHeartbeats 8000000 in
theorem erase_ok (h : St w0 W gc gb gp m D) (hoff : m.off = false) (hplan : hitOf m.pl (tgt m) = none) (n : Nat) (hn : n < m.g.B) (hbad : (m.bk n).bad = false) :
  Calls Tryd.prog 42 #[cp gc, .int .i64 n] W fun e w' => e = .returned (.int .i64 0) ∧ St w0 w' gc gb gp (({ m with ops := wrap64 (m.ops + 1) } : Ch).setBk n { clr 0 m.g.P { m.bk n with er := wrap64 ((m.bk n).er + 1) } with nx := 0 }) (clrD D n m.g.P) ∧ Keeps W w' := by
 have HRY := Aside0.mk (ready_yes h hoff n hn)
 have H := Aside0.mk h
 have HPL := Aside0.mk hplan
 have HBD := Aside0.mk hbad
 have hu44 := Tryd.underlying71
 clear h hoff hplan hbad
 go_enter Tryd.func42, Tryd.ntmps42
 go_upto_region 7 with (first
  | (go_at_call 33; (with_reducible refine HRY.out.mono ?_); rintro e w1 ⟨rfl, hb1⟩; have h1 := H.out.grow hb1; have H1 := Aside0.mk h1; have HB1 := Aside0.mk hb1; have z0 := (h1.cellB n hn).1; rw [HBD.out] at z0; clear hb1 h1))
 clear z0
 have hbn := begin_any H1.out
 rw [show hitOf m.pl (wrap64 (wrap64 (m.ops + 1) - m.frm)) = none from HPL.out, show bgV none = .tuple #[.agg #[.int .i64 0, .int .i64 0, .int .i64 0], .bool false] from rfl] at hbn
 have HBN := Aside0.mk hbn
 clear hbn
 go_upto_region 8 with (first
  | (go_at_call 34; (with_reducible refine HBN.out.mono ?_); rintro e w2 ⟨rfl, h2, hk2⟩; have H2 := Aside0.mk h2; have HK2 := Aside0.mk ((Keeps.of_below HB1.out).trans hk2); clear h2 hk2))
 generalize hW : w2.alloc (.cells #[.int .i64 0, .int .i64 0, .int .i64 0] 71) = W3
 have hb3 : Below w2.heap.size w2 W3 := by rw [← hW]; exact below_alloc (Below.refl _ _) _
 have hx3 : W3.heap[w2.heap.size]? = some (.cells #[.int .i64 0, .int .i64 0, .int .i64 0] 71 (0, 0)) := by rw [← hW]; exact new_blk _ _ _
 have h3 := H2.out.grow hb3
 have z1 := (h3.cellB n hn).2.1
 have f1 := blk_frozen h3.b (n * 4 + 1)
 have H3 := Aside0.mk h3
 have HX3 := Aside0.mk hx3
 have HK3 := Aside0.mk (HK2.out.trans (Keeps.of_below hb3))
 clear hW hb3 h3 hx3
 go_upto_region 9 with (fail)
 have h4 := H3.out.er n (wrap64 ((m.bk n).er + 1))
 have hk4 := HK3.out.set H3.out.b (by decide) (n * 4 + 1) (.int .i64 (wrap64 ((m.bk n).er + 1)))
 change St w0 (W3.setCell ⟨gb, n * 4 + 1, none⟩ (.int .i64 (wrap64 ((m.bk n).er + 1)))) gc gb gp _ D at h4
 have hx4 := blk_far (p := ⟨gb, n * 4 + 1, none⟩) HX3.out (ne_of_type HX3.out H3.out.b (by decide)) (.int .i64 (wrap64 ((m.bk n).er + 1)))
 generalize W3.setCell ⟨gb, n * 4 + 1, none⟩ (.int .i64 (wrap64 ((m.bk n).er + 1))) = W4 at h4 hk4 hx4 ⊢
 have x1 := Joins.cell_of_block hx4 1
 have HCL := Aside0.mk (clean_is h4 n hn)
 have HK4 := Aside0.mk hk4
 clear z1 f1 h4 hk4 hx4
 go_wp2_with (first
  | (go_at_call 64; (with_reducible refine HCL.out.mono ?_); rintro e w5 ⟨rfl, h5, hk5⟩; have H5 := Aside0.mk h5; have HK5 := Aside0.mk (HK4.out.trans hk5); clear h5 hk5))
 go_ret
 have h6 := H5.out
 rw [setBk_self, setBk_twice] at h6
 exact ⟨rfl, h6, HK5.out⟩
set_option maxRecDepth 100000 in
set_option maxHeartbeats 8000000 in
theorem erase_fail (h : St w0 W gc gb gp m D) (hoff : m.off = false) (f : F3) (hplan : hitOf m.pl (tgt m) = some f) (hf1 : f.f1 = 2) (n : Nat) (hn : n < m.g.B) (hbad : (m.bk n).bad = false) :
  Calls Tryd.prog 42 #[cp gc, .int .i64 n] W fun e w' => e = .returned (.int .i64 5) ∧ St w0 w' gc gb gp (({ m with ops := wrap64 (m.ops + 1) } : Ch).setBk n { clr 2 m.g.P { m.bk n with er := wrap64 ((m.bk n).er + 1) } with nx := (m.g.P : Int) }) (clrD D n m.g.P) ∧ Keeps W w' := by
 have HRY := Aside0.mk (ready_yes h hoff n hn)
 have H := Aside0.mk h
 have HPL := Aside0.mk hplan
 have HBD := Aside0.mk hbad
 have hu44 := Tryd.underlying71
 have HF1 := Aside0.mk hf1
 clear h hoff hplan hbad hf1
 go_enter Tryd.func42, Tryd.ntmps42
 go_upto_region 7 with (first
  | (go_at_call 33; (with_reducible refine HRY.out.mono ?_); rintro e w1 ⟨rfl, hb1⟩; have h1 := H.out.grow hb1; have H1 := Aside0.mk h1; have HB1 := Aside0.mk hb1; have z0 := (h1.cellB n hn).1; rw [HBD.out] at z0; clear hb1 h1))
 clear z0
 have hbn := begin_any H1.out
 rw [show hitOf m.pl (wrap64 (wrap64 (m.ops + 1) - m.frm)) = some f from HPL.out, show bgV (some f) = .tuple #[.agg #[.int .i64 f.f0, .int .i64 f.f1, .int .i64 f.f2], .bool true] from rfl] at hbn
 have HBN := Aside0.mk hbn
 clear hbn
 go_upto_region 8 with (first
  | (go_at_call 34; (with_reducible refine HBN.out.mono ?_); rintro e w2 ⟨rfl, h2, hk2⟩; have H2 := Aside0.mk h2; have HK2 := Aside0.mk ((Keeps.of_below HB1.out).trans hk2); clear h2 hk2))
 generalize hW : w2.alloc (.cells #[.int .i64 f.f0, .int .i64 f.f1, .int .i64 f.f2] 71) = W3
 have hb3 : Below w2.heap.size w2 W3 := by rw [← hW]; exact below_alloc (Below.refl _ _) _
 have hx3 : W3.heap[w2.heap.size]? = some (.cells #[.int .i64 f.f0, .int .i64 f.f1, .int .i64 f.f2] 71 (0, 0)) := by rw [← hW]; exact new_blk _ _ _
 rw [HF1.out] at hx3
 have h3 := H2.out.grow hb3
 have z1 := (h3.cellB n hn).2.1
 have f1 := blk_frozen h3.b (n * 4 + 1)
 have H3 := Aside0.mk h3
 have HX3 := Aside0.mk hx3
 have HK3 := Aside0.mk (HK2.out.trans (Keeps.of_below hb3))
 clear hW hb3 h3 hx3
 go_upto_region 9 with (fail)
 have h4 := H3.out.er n (wrap64 ((m.bk n).er + 1))
 have hk4 := HK3.out.set H3.out.b (by decide) (n * 4 + 1) (.int .i64 (wrap64 ((m.bk n).er + 1)))
 change St w0 (W3.setCell ⟨gb, n * 4 + 1, none⟩ (.int .i64 (wrap64 ((m.bk n).er + 1)))) gc gb gp _ D at h4
 have hx4 := blk_far (p := ⟨gb, n * 4 + 1, none⟩) HX3.out (ne_of_type HX3.out H3.out.b (by decide)) (.int .i64 (wrap64 ((m.bk n).er + 1)))
 generalize W3.setCell ⟨gb, n * 4 + 1, none⟩ (.int .i64 (wrap64 ((m.bk n).er + 1))) = W4 at h4 hk4 hx4 ⊢
 have x1 := Joins.cell_of_block hx4 1
 have HCL := Aside0.mk (spoil_is h4 n hn)
 have HK4 := Aside0.mk hk4
 clear z1 f1 h4 hk4 hx4
 go_wp2_with (first
  | (go_at_call 65; (with_reducible refine HCL.out.mono ?_); rintro e w5 ⟨rfl, h5, hk5⟩; have H5 := Aside0.mk h5; have HK5 := Aside0.mk (HK4.out.trans hk5); clear h5 hk5))
 go_ret
 have h6 := H5.out
 rw [setBk_self, setBk_twice] at h6
 exact ⟨rfl, h6, HK5.out⟩
set_option maxRecDepth 100000 in
set_option maxHeartbeats 8000000 in
theorem erase_cut0 (h : St w0 W gc gb gp m D) (hoff : m.off = false) (f : F3) (hplan : hitOf m.pl (tgt m) = some f) (hf1 : f.f1 ≠ 2) (hf2 : f.f2 ≠ 1) (hf3 : f.f2 ≠ 2) (n : Nat) (hn : n < m.g.B) (hbad : (m.bk n).bad = false) :
  Calls Tryd.prog 42 #[cp gc, .int .i64 n] W fun e w' => e = .returned (.int .i64 6) ∧ St w0 w' gc gb gp (({ m with ops := wrap64 (m.ops + 1), off := true } : Ch).setBk n { m.bk n with er := wrap64 ((m.bk n).er + 1) }) D ∧ Keeps W w' := by
 have HRY := Aside0.mk (ready_yes h hoff n hn)
 have H := Aside0.mk h
 have HPL := Aside0.mk hplan
 have HBD := Aside0.mk hbad
 have hu44 := Tryd.underlying71
 have e1 : (f.f1 == (2 : Int)) = false := by simp only [beq_eq_false_iff_ne]; exact hf1
 have e2 : (f.f2 == (1 : Int)) = false := by simp only [beq_eq_false_iff_ne]; exact hf2
 have e3 : (f.f2 == (2 : Int)) = false := by simp only [beq_eq_false_iff_ne]; exact hf3
 clear h hoff hplan hbad hf1 hf2 hf3
 go_enter Tryd.func42, Tryd.ntmps42
 go_upto_region 7 with (first
  | (go_at_call 33; (with_reducible refine HRY.out.mono ?_); rintro e w1 ⟨rfl, hb1⟩; have h1 := H.out.grow hb1; have H1 := Aside0.mk h1; have HB1 := Aside0.mk hb1; have z0 := (h1.cellB n hn).1; rw [HBD.out] at z0; clear hb1 h1))
 clear z0
 have hbn := begin_any H1.out
 rw [show hitOf m.pl (wrap64 (wrap64 (m.ops + 1) - m.frm)) = some f from HPL.out, show bgV (some f) = .tuple #[.agg #[.int .i64 f.f0, .int .i64 f.f1, .int .i64 f.f2], .bool true] from rfl] at hbn
 have HBN := Aside0.mk hbn
 clear hbn
 go_upto_region 8 with (first
  | (go_at_call 34; (with_reducible refine HBN.out.mono ?_); rintro e w2 ⟨rfl, h2, hk2⟩; have H2 := Aside0.mk h2; have HK2 := Aside0.mk ((Keeps.of_below HB1.out).trans hk2); clear h2 hk2))
 generalize hW : w2.alloc (.cells #[.int .i64 f.f0, .int .i64 f.f1, .int .i64 f.f2] 71) = W3
 have hb3 : Below w2.heap.size w2 W3 := by rw [← hW]; exact below_alloc (Below.refl _ _) _
 have hx3 : W3.heap[w2.heap.size]? = some (.cells #[.int .i64 f.f0, .int .i64 f.f1, .int .i64 f.f2] 71 (0, 0)) := by rw [← hW]; exact new_blk _ _ _
 have h3 := H2.out.grow hb3
 have z1 := (h3.cellB n hn).2.1
 have f1 := blk_frozen h3.b (n * 4 + 1)
 have H3 := Aside0.mk h3
 have HX3 := Aside0.mk hx3
 have HK3 := Aside0.mk (HK2.out.trans (Keeps.of_below hb3))
 clear hW hb3 h3 hx3
 go_upto_region 9 with (fail)
 have h4 := H3.out.er n (wrap64 ((m.bk n).er + 1))
 have hk4 := HK3.out.set H3.out.b (by decide) (n * 4 + 1) (.int .i64 (wrap64 ((m.bk n).er + 1)))
 change St w0 (W3.setCell ⟨gb, n * 4 + 1, none⟩ (.int .i64 (wrap64 ((m.bk n).er + 1)))) gc gb gp _ D at h4
 have hx4 := blk_far (p := ⟨gb, n * 4 + 1, none⟩) HX3.out (ne_of_type HX3.out H3.out.b (by decide)) (.int .i64 (wrap64 ((m.bk n).er + 1)))
 generalize W3.setCell ⟨gb, n * 4 + 1, none⟩ (.int .i64 (wrap64 ((m.bk n).er + 1))) = W4 at h4 hk4 hx4 ⊢
 have x1 := Joins.cell_of_block hx4 1
 have fo := blk_frozen h4.c 7
 have co := h4.cellC 7
 have H4 := Aside0.mk h4
 have HK4 := Aside0.mk hk4
 have HX4 := Aside0.mk hx4
 clear z1 f1 h4 hk4 hx4
 go_upto_region 16 with (fail)
 generalize hW : W4.setCell ⟨gc, 7, none⟩ (.bool true) = W5
 have h5 := H4.out.setC 7 (.bool true) (m' := (({ m with ops := wrap64 (m.ops + 1), off := true } : Ch).setBk n { m.bk n with er := wrap64 ((m.bk n).er + 1) })) rfl rfl rfl H4.out.pln
 rw [hW] at h5
 have hk5 : Keeps W W5 := by rw [← hW]; exact HK4.out.set H4.out.c (by decide) _ _
 have hx5 : W5.heap[w2.heap.size]? = some (.cells #[.int .i64 f.f0, .int .i64 f.f1, .int .i64 f.f2] 71 (0, 0)) := by rw [← hW]; exact blk_far HX4.out (ne_of_type HX4.out H4.out.c (by decide)) _
 have x2 := Joins.cell_of_block hx5 2
 have H5 := Aside0.mk h5
 have HK5 := Aside0.mk hk5
 clear hW h5 hk5 hx5 x1 fo co
 go_wp2
 go_ret
 exact ⟨rfl, H5.out, HK5.out⟩
set_option maxRecDepth 100000 in
set_option maxHeartbeats 8000000 in
theorem erase_cut1 (h : St w0 W gc gb gp m D) (hoff : m.off = false) (f : F3) (hplan : hitOf m.pl (tgt m) = some f) (hf1 : f.f1 ≠ 2) (hf2 : f.f2 = 1) (n : Nat) (hn : n < m.g.B) (hbad : (m.bk n).bad = false) :
  Calls Tryd.prog 42 #[cp gc, .int .i64 n] W fun e w' => e = .returned (.int .i64 6) ∧ St w0 w' gc gb gp (({ m with ops := wrap64 (m.ops + 1), off := true } : Ch).setBk n { clr 2 m.g.P { m.bk n with er := wrap64 ((m.bk n).er + 1) } with nx := (m.g.P : Int) }) (clrD D n m.g.P) ∧ Keeps W w' := by
 have HRY := Aside0.mk (ready_yes h hoff n hn)
 have H := Aside0.mk h
 have HPL := Aside0.mk hplan
 have HBD := Aside0.mk hbad
 have hu44 := Tryd.underlying71
 have e1 : (f.f1 == (2 : Int)) = false := by simp only [beq_eq_false_iff_ne]; exact hf1
 have HF2 := Aside0.mk hf2
 clear h hoff hplan hbad hf1 hf2
 go_enter Tryd.func42, Tryd.ntmps42
 go_upto_region 7 with (first
  | (go_at_call 33; (with_reducible refine HRY.out.mono ?_); rintro e w1 ⟨rfl, hb1⟩; have h1 := H.out.grow hb1; have H1 := Aside0.mk h1; have HB1 := Aside0.mk hb1; have z0 := (h1.cellB n hn).1; rw [HBD.out] at z0; clear hb1 h1))
 clear z0
 have hbn := begin_any H1.out
 rw [show hitOf m.pl (wrap64 (wrap64 (m.ops + 1) - m.frm)) = some f from HPL.out, show bgV (some f) = .tuple #[.agg #[.int .i64 f.f0, .int .i64 f.f1, .int .i64 f.f2], .bool true] from rfl] at hbn
 have HBN := Aside0.mk hbn
 clear hbn
 go_upto_region 8 with (first
  | (go_at_call 34; (with_reducible refine HBN.out.mono ?_); rintro e w2 ⟨rfl, h2, hk2⟩; have H2 := Aside0.mk h2; have HK2 := Aside0.mk ((Keeps.of_below HB1.out).trans hk2); clear h2 hk2))
 generalize hW : w2.alloc (.cells #[.int .i64 f.f0, .int .i64 f.f1, .int .i64 f.f2] 71) = W3
 have hb3 : Below w2.heap.size w2 W3 := by rw [← hW]; exact below_alloc (Below.refl _ _) _
 have hx3 : W3.heap[w2.heap.size]? = some (.cells #[.int .i64 f.f0, .int .i64 f.f1, .int .i64 f.f2] 71 (0, 0)) := by rw [← hW]; exact new_blk _ _ _
 rw [HF2.out] at hx3
 have h3 := H2.out.grow hb3
 have z1 := (h3.cellB n hn).2.1
 have f1 := blk_frozen h3.b (n * 4 + 1)
 have H3 := Aside0.mk h3
 have HX3 := Aside0.mk hx3
 have HK3 := Aside0.mk (HK2.out.trans (Keeps.of_below hb3))
 clear hW hb3 h3 hx3
 go_upto_region 9 with (fail)
 have h4 := H3.out.er n (wrap64 ((m.bk n).er + 1))
 have hk4 := HK3.out.set H3.out.b (by decide) (n * 4 + 1) (.int .i64 (wrap64 ((m.bk n).er + 1)))
 change St w0 (W3.setCell ⟨gb, n * 4 + 1, none⟩ (.int .i64 (wrap64 ((m.bk n).er + 1)))) gc gb gp _ D at h4
 have hx4 := blk_far (p := ⟨gb, n * 4 + 1, none⟩) HX3.out (ne_of_type HX3.out H3.out.b (by decide)) (.int .i64 (wrap64 ((m.bk n).er + 1)))
 generalize W3.setCell ⟨gb, n * 4 + 1, none⟩ (.int .i64 (wrap64 ((m.bk n).er + 1))) = W4 at h4 hk4 hx4 ⊢
 have x1 := Joins.cell_of_block hx4 1
 have fo := blk_frozen h4.c 7
 have co := h4.cellC 7
 have H4 := Aside0.mk h4
 have HK4 := Aside0.mk hk4
 have HX4 := Aside0.mk hx4
 clear z1 f1 h4 hk4 hx4
 go_upto_region 16 with (fail)
 generalize hW : W4.setCell ⟨gc, 7, none⟩ (.bool true) = W5
 have h5 := H4.out.setC 7 (.bool true) (m' := (({ m with ops := wrap64 (m.ops + 1), off := true } : Ch).setBk n { m.bk n with er := wrap64 ((m.bk n).er + 1) })) rfl rfl rfl H4.out.pln
 rw [hW] at h5
 have hk5 : Keeps W W5 := by rw [← hW]; exact HK4.out.set H4.out.c (by decide) _ _
 have hx5 : W5.heap[w2.heap.size]? = some (.cells #[.int .i64 f.f0, .int .i64 f.f1, .int .i64 1] 71 (0, 0)) := by rw [← hW]; exact blk_far HX4.out (ne_of_type HX4.out H4.out.c (by decide)) _
 have x2 := Joins.cell_of_block hx5 2
 have H5 := Aside0.mk h5
 have HK5 := Aside0.mk hk5
 clear hW h5 hk5 hx5 x1 fo co
 have HCL := Aside0.mk (spoil_is H5.out n hn)
 go_wp2_with (first
  | (go_at_call 65; (with_reducible refine HCL.out.mono ?_); rintro e w6 ⟨rfl, h6, hk6⟩; have H6 := Aside0.mk h6; have HK6 := Aside0.mk (HK5.out.trans hk6); clear h6 hk6))
 go_ret
 have h7 := H6.out
 rw [setBk_self, setBk_twice] at h7
 exact ⟨rfl, h7, HK6.out⟩
set_option maxRecDepth 100000 in
set_option maxHeartbeats 8000000 in
theorem erase_cut2 (h : St w0 W gc gb gp m D) (hoff : m.off = false) (f : F3) (hplan : hitOf m.pl (tgt m) = some f) (hf1 : f.f1 ≠ 2) (hf2 : f.f2 = 2) (n : Nat) (hn : n < m.g.B) (hbad : (m.bk n).bad = false) :
  Calls Tryd.prog 42 #[cp gc, .int .i64 n] W fun e w' => e = .returned (.int .i64 6) ∧ St w0 w' gc gb gp (({ m with ops := wrap64 (m.ops + 1), off := true } : Ch).setBk n { clr 0 m.g.P { m.bk n with er := wrap64 ((m.bk n).er + 1) } with nx := 0 }) (clrD D n m.g.P) ∧ Keeps W w' := by
 have HRY := Aside0.mk (ready_yes h hoff n hn)
 have H := Aside0.mk h
 have HPL := Aside0.mk hplan
 have HBD := Aside0.mk hbad
 have hu44 := Tryd.underlying71
 have e1 : (f.f1 == (2 : Int)) = false := by simp only [beq_eq_false_iff_ne]; exact hf1
 have HF2 := Aside0.mk hf2
 clear h hoff hplan hbad hf1 hf2
 go_enter Tryd.func42, Tryd.ntmps42
 go_upto_region 7 with (first
  | (go_at_call 33; (with_reducible refine HRY.out.mono ?_); rintro e w1 ⟨rfl, hb1⟩; have h1 := H.out.grow hb1; have H1 := Aside0.mk h1; have HB1 := Aside0.mk hb1; have z0 := (h1.cellB n hn).1; rw [HBD.out] at z0; clear hb1 h1))
 clear z0
 have hbn := begin_any H1.out
 rw [show hitOf m.pl (wrap64 (wrap64 (m.ops + 1) - m.frm)) = some f from HPL.out, show bgV (some f) = .tuple #[.agg #[.int .i64 f.f0, .int .i64 f.f1, .int .i64 f.f2], .bool true] from rfl] at hbn
 have HBN := Aside0.mk hbn
 clear hbn
 go_upto_region 8 with (first
  | (go_at_call 34; (with_reducible refine HBN.out.mono ?_); rintro e w2 ⟨rfl, h2, hk2⟩; have H2 := Aside0.mk h2; have HK2 := Aside0.mk ((Keeps.of_below HB1.out).trans hk2); clear h2 hk2))
 generalize hW : w2.alloc (.cells #[.int .i64 f.f0, .int .i64 f.f1, .int .i64 f.f2] 71) = W3
 have hb3 : Below w2.heap.size w2 W3 := by rw [← hW]; exact below_alloc (Below.refl _ _) _
 have hx3 : W3.heap[w2.heap.size]? = some (.cells #[.int .i64 f.f0, .int .i64 f.f1, .int .i64 f.f2] 71 (0, 0)) := by rw [← hW]; exact new_blk _ _ _
 rw [HF2.out] at hx3
 have h3 := H2.out.grow hb3
 have z1 := (h3.cellB n hn).2.1
 have f1 := blk_frozen h3.b (n * 4 + 1)
 have H3 := Aside0.mk h3
 have HX3 := Aside0.mk hx3
 have HK3 := Aside0.mk (HK2.out.trans (Keeps.of_below hb3))
 clear hW hb3 h3 hx3
 go_upto_region 9 with (fail)
 have h4 := H3.out.er n (wrap64 ((m.bk n).er + 1))
 have hk4 := HK3.out.set H3.out.b (by decide) (n * 4 + 1) (.int .i64 (wrap64 ((m.bk n).er + 1)))
 change St w0 (W3.setCell ⟨gb, n * 4 + 1, none⟩ (.int .i64 (wrap64 ((m.bk n).er + 1)))) gc gb gp _ D at h4
 have hx4 := blk_far (p := ⟨gb, n * 4 + 1, none⟩) HX3.out (ne_of_type HX3.out H3.out.b (by decide)) (.int .i64 (wrap64 ((m.bk n).er + 1)))
 generalize W3.setCell ⟨gb, n * 4 + 1, none⟩ (.int .i64 (wrap64 ((m.bk n).er + 1))) = W4 at h4 hk4 hx4 ⊢
 have x1 := Joins.cell_of_block hx4 1
 have fo := blk_frozen h4.c 7
 have co := h4.cellC 7
 have H4 := Aside0.mk h4
 have HK4 := Aside0.mk hk4
 have HX4 := Aside0.mk hx4
 clear z1 f1 h4 hk4 hx4
 go_upto_region 16 with (fail)
 generalize hW : W4.setCell ⟨gc, 7, none⟩ (.bool true) = W5
 have h5 := H4.out.setC 7 (.bool true) (m' := (({ m with ops := wrap64 (m.ops + 1), off := true } : Ch).setBk n { m.bk n with er := wrap64 ((m.bk n).er + 1) })) rfl rfl rfl H4.out.pln
 rw [hW] at h5
 have hk5 : Keeps W W5 := by rw [← hW]; exact HK4.out.set H4.out.c (by decide) _ _
 have hx5 : W5.heap[w2.heap.size]? = some (.cells #[.int .i64 f.f0, .int .i64 f.f1, .int .i64 2] 71 (0, 0)) := by rw [← hW]; exact blk_far HX4.out (ne_of_type HX4.out H4.out.c (by decide)) _
 have x2 := Joins.cell_of_block hx5 2
 have H5 := Aside0.mk h5
 have HK5 := Aside0.mk hk5
 clear hW h5 hk5 hx5 x1 fo co
 have HCL := Aside0.mk (clean_is H5.out n hn)
 go_wp2_with (first
  | (go_at_call 64; (with_reducible refine HCL.out.mono ?_); rintro e w6 ⟨rfl, h6, hk6⟩; have H6 := Aside0.mk h6; have HK6 := Aside0.mk (HK5.out.trans hk6); clear h6 hk6))
 go_ret
 have h7 := H6.out
 rw [setBk_self, setBk_twice] at h7
 exact ⟨rfl, h7, HK6.out⟩
set_option maxRecDepth 100000 in
set_option maxHeartbeats 8000000 in
theorem erase_perm (h : St w0 W gc gb gp m D) (hoff : m.off = false) (n : Nat) (hn : n < m.g.B) (hbad : (m.bk n).bad = true) :
  Calls Tryd.prog 42 #[cp gc, .int .i64 n] W fun e w' => e = .returned (.int .i64 1) ∧ St w0 w' gc gb gp { m with wrong := wrap64 (m.wrong + 1) } D ∧ Keeps W w' := by
 have HRY := Aside0.mk (ready_yes h hoff n hn)
 have H := Aside0.mk h
 have HB := Aside0.mk hbad
 clear h hoff hbad
 go_enter Tryd.func42, Tryd.ntmps42
 go_wp2_with (first
  | (go_at_call 33; (with_reducible refine HRY.out.mono ?_); rintro e w1 ⟨rfl, hb1⟩; have h1 := H.out.grow hb1; have H1 := Aside0.mk h1; have HB1 := Aside0.mk hb1; have z0 := (h1.cellB n hn).1; rw [HB.out] at z0; have y9 : w1.cell? ⟨gc, 9, none⟩ = some (.int .i64 m.wrong) := h1.cellC 9; have f9 := blk_frozen h1.c 9; clear hb1 h1))
 go_ret
 exact ⟨rfl, H1.out.wrong _, (Keeps.of_below HB1.out).set H1.out.c (by decide) _ _⟩
set_option maxRecDepth 100000 in
set_option maxHeartbeats 8000000 in
theorem mark_ok (h : St w0 W gc gb gp m D) (hoff : m.off = false) (n : Nat) (hn : n < m.g.B) :
  Calls Tryd.prog 44 #[cp gc, .int .i64 n] W fun e w' => e = .returned (.int .i64 0) ∧ St w0 w' gc gb gp (m.setBk n { m.bk n with bad := true }) D ∧ Keeps W w' := by
 have HRY := Aside0.mk (ready_yes h hoff n hn)
 have H := Aside0.mk h
 clear h hoff
 go_enter Tryd.func44, Tryd.ntmps44
 go_wp2_with (first
  | (go_at_call 33; (with_reducible refine HRY.out.mono ?_); rintro e w1 ⟨rfl, hb1⟩; have h1 := H.out.grow hb1; have H1 := Aside0.mk h1; have HB1 := Aside0.mk hb1; have z0 := (h1.cellB n hn).1; have f0 := blk_frozen h1.b (n * 4); clear hb1 h1))
 go_ret
 exact ⟨rfl, H1.out.badS n true, (Keeps.of_below HB1.out).set H1.out.b (by decide) _ _⟩
set_option maxRecDepth 100000 in
theorem read_err {k : Int} (hk : k ≠ 0) (n : Int) (p : Int) (hr : Calls Tryd.prog 33 #[cp gc, .int .i64 n] W fun e w' => e = .returned (.tuple #[.pointer none, .int .i64 k]) ∧ Below W.heap.size W w') :
  Calls Tryd.prog 26 #[cp gc, .int .i64 n, .int .i64 p] W fun e w' => e = .returned (.tuple #[.slice none 0 0, .int .i64 k]) ∧ Below W.heap.size W w' := by
 have HRY := Aside0.mk hr
 have e1 : (k == 0) = false := by simp only [beq_eq_false_iff_ne]; exact hk
 have e2 : (k != 0) = true := by simp only [bne_iff_ne]; exact hk
 clear hr hk
 go_enter Tryd.func26, Tryd.ntmps26
 go_wp2_with (first
  | (go_at_call 33; (with_reducible refine HRY.out.mono ?_); rintro e w1 ⟨rfl, hb1⟩; have HB1 := Aside0.mk hb1; clear hb1))
 go_ret2
 exact ⟨rfl, HB1.out⟩
set_option maxRecDepth 100000 in
theorem program_err {k : Int} (hk : k ≠ 0) (n : Int) (p : Int) (v : Value) (hr : Calls Tryd.prog 33 #[cp gc, .int .i64 n] W fun e w' => e = .returned (.tuple #[.pointer none, .int .i64 k]) ∧ Below W.heap.size W w') :
  Calls Tryd.prog 18 #[cp gc, .int .i64 n, .int .i64 p, v] W fun e w' => e = .returned (.int .i64 k) ∧ Below W.heap.size W w' := by
 have HRY := Aside0.mk hr
 have e1 : (k == 0) = false := by simp only [beq_eq_false_iff_ne]; exact hk
 have e2 : (k != 0) = true := by simp only [bne_iff_ne]; exact hk
 clear hr hk
 go_enter Tryd.func18, Tryd.ntmps18
 go_wp2_with (first
  | (go_at_call 33; (with_reducible refine HRY.out.mono ?_); rintro e w1 ⟨rfl, hb1⟩; have HB1 := Aside0.mk hb1; clear hb1))
 go_ret
 exact ⟨rfl, HB1.out⟩
set_option maxRecDepth 100000 in
theorem erase_err {k : Int} (hk : k ≠ 0) (n : Int) (hr : Calls Tryd.prog 33 #[cp gc, .int .i64 n] W fun e w' => e = .returned (.tuple #[.pointer none, .int .i64 k]) ∧ Below W.heap.size W w') :
  Calls Tryd.prog 42 #[cp gc, .int .i64 n] W fun e w' => e = .returned (.int .i64 k) ∧ Below W.heap.size W w' := by
 have HRY := Aside0.mk hr
 have e1 : (k == 0) = false := by simp only [beq_eq_false_iff_ne]; exact hk
 have e2 : (k != 0) = true := by simp only [bne_iff_ne]; exact hk
 clear hr hk
 go_enter Tryd.func42, Tryd.ntmps42
 go_wp2_with (first
  | (go_at_call 33; (with_reducible refine HRY.out.mono ?_); rintro e w1 ⟨rfl, hb1⟩; have HB1 := Aside0.mk hb1; clear hb1))
 go_ret
 exact ⟨rfl, HB1.out⟩
set_option maxRecDepth 100000 in
theorem mark_err {k : Int} (hk : k ≠ 0) (n : Int) (hr : Calls Tryd.prog 33 #[cp gc, .int .i64 n] W fun e w' => e = .returned (.tuple #[.pointer none, .int .i64 k]) ∧ Below W.heap.size W w') :
  Calls Tryd.prog 44 #[cp gc, .int .i64 n] W fun e w' => e = .returned (.int .i64 k) ∧ Below W.heap.size W w' := by
 have HRY := Aside0.mk hr
 have e1 : (k == 0) = false := by simp only [beq_eq_false_iff_ne]; exact hk
 have e2 : (k != 0) = true := by simp only [bne_iff_ne]; exact hk
 clear hr hk
 go_enter Tryd.func44, Tryd.ntmps44
 go_wp2_with (first
  | (go_at_call 33; (with_reducible refine HRY.out.mono ?_); rintro e w1 ⟨rfl, hb1⟩; have HB1 := Aside0.mk hb1; clear hb1))
 go_ret
 exact ⟨rfl, HB1.out⟩
set_option maxRecDepth 100000 in
set_option maxHeartbeats 8000000 in
theorem read_range (h : St w0 W gc gb gp m D) (hoff : m.off = false) (n : Nat) (hn : n < m.g.B) (p : Int) (hp : p < 0 ∨ m.g.P ≤ p) :
  Calls Tryd.prog 26 #[cp gc, .int .i64 n, .int .i64 p] W fun e w' => e = .returned (.tuple #[.slice none 0 0, .int .i64 22]) ∧ Below W.heap.size W w' := by
 have HRY := Aside0.mk (ready_yes h hoff n hn)
 have H := Aside0.mk h
 clear h hoff
 by_cases h0 : p < 0
 ·have d1 : decide (p < 0) = true := decide_eq_true h0
  clear hp
  go_enter Tryd.func26, Tryd.ntmps26
  go_wp2_with (first
   | (go_at_call 33; (with_reducible refine HRY.out.mono ?_); rintro e w1 ⟨rfl, hb1⟩; have HB1 := Aside0.mk hb1; clear hb1))
  go_ret2
  exact ⟨rfl, HB1.out⟩
 ·have d1 : decide (p < 0) = false := decide_eq_false h0
  have d2 : decide ((m.g.P : Int) ≤ p) = true := decide_eq_true (by omega)
  clear hp
  go_enter Tryd.func26, Tryd.ntmps26
  go_wp2_with (first
   | (go_at_call 33; (with_reducible refine HRY.out.mono ?_); rintro e w1 ⟨rfl, hb1⟩; have h1 := H.out.grow hb1; have HB1 := Aside0.mk hb1; have z2 := (h1.cellB n hn).2.2.1; clear hb1 h1))
  go_ret2
  exact ⟨rfl, HB1.out⟩
set_option maxRecDepth 100000 in
set_option maxHeartbeats 8000000 in
theorem program_range (h : St w0 W gc gb gp m D) (hoff : m.off = false) (n : Nat) (hn : n < m.g.B) (p : Int) (A : Option Addr) (len c : Nat) (hp : p < 0 ∨ m.g.P ≤ p ∨ m.g.Z < len) :
  Calls Tryd.prog 18 #[cp gc, .int .i64 n, .int .i64 p, .slice A len c] W fun e w' => e = .returned (.int .i64 22) ∧ Below W.heap.size W w' := by
 have HRY := Aside0.mk (ready_yes h hoff n hn)
 have H := Aside0.mk h
 clear h hoff
 by_cases h0 : p < 0
 ·have d1 : decide (p < 0) = true := decide_eq_true h0
  clear hp
  go_enter Tryd.func18, Tryd.ntmps18
  go_wp2_with (first
   | (go_at_call 33; (with_reducible refine HRY.out.mono ?_); rintro e w1 ⟨rfl, hb1⟩; have HB1 := Aside0.mk hb1; clear hb1))
  go_ret
  exact ⟨rfl, HB1.out⟩
 ·have d1 : decide (p < 0) = false := decide_eq_false h0
  by_cases h1 : m.g.P ≤ p
  ·have d2 : decide ((m.g.P : Int) ≤ p) = true := decide_eq_true h1
   clear hp
   go_enter Tryd.func18, Tryd.ntmps18
   go_wp2_with (first
    | (go_at_call 33; (with_reducible refine HRY.out.mono ?_); rintro e w1 ⟨rfl, hb1⟩; have h1 := H.out.grow hb1; have HB1 := Aside0.mk hb1; have z2 := (h1.cellB n hn).2.2.1; clear hb1 h1))
   go_ret
   exact ⟨rfl, HB1.out⟩
  ·have d2 : decide ((m.g.P : Int) ≤ p) = false := decide_eq_false h1
   have hl : m.g.Z < len := by omega
   have d3 : decide ((m.g.Z : Int) < (len : Int)) = true := decide_eq_true (by omega)
   have d4 : decide (m.g.Z < len) = true := decide_eq_true hl
   clear hp
   go_enter Tryd.func18, Tryd.ntmps18
   go_wp2_with (first
    | (go_at_call 33; (with_reducible refine HRY.out.mono ?_); rintro e w1 ⟨rfl, hb1⟩; have h1 := H.out.grow hb1; have HB1 := Aside0.mk hb1; have z2 := (h1.cellB n hn).2.2.1; have y2 : w1.cell? ⟨gc, 2, none⟩ = some (.int .i64 m.g.Z) := h1.cellC 2; clear hb1 h1))
   go_ret
   exact ⟨rfl, HB1.out⟩
set_option maxRecDepth 100000 in
set_option maxHeartbeats 8000000 in
theorem power_is (h : St w0 W gc gb gp m D) : Calls Tryd.prog 22 #[cp gc] W fun e w' => e = .returned (.tuple #[]) ∧ St w0 w' gc gb gp { m with off := false } D ∧ Keeps W w' := by
 have H := Aside0.mk h
 have y7 : W.cell? ⟨gc, 7, none⟩ = some (.bool m.off) := h.cellC 7
 have f7 := blk_frozen h.c 7
 clear h
 go_enter Tryd.func22, Tryd.ntmps22
 go_wp2
 go_end0
 exact ⟨rfl, H.out.setC 7 _ rfl rfl rfl H.out.pln, (Keeps.refl W).set H.out.c (by decide) _ _⟩
end Go.Proofs.YtdlimghdimkadaaDoor.PAll
namespace Go.Proofs.YtdlimghdimkadaaDoor.PAll
open Go.RowKit Go.Proofs.YtdlimghdimkadaaDoorW.PrintWords Go.Proofs.YtdlimghdimkadaaDoorW.PrintLast Go.Proofs.YtdlimghdimkadaaDoorW.PrintMore
set_option linter.unusedSimpArgs false
set_option linter.unusedVariables false
attribute [local go_sem] max2_int min2_int max_two min_two max_three min_three max_four min_four
def pow2 (n : Int) : Bool := if 0 < n then bits BinOp.and IntKind.i64 n (wrap64 (n - 1)) == 0 else false
set_option maxRecDepth 100000 in
theorem power_fn (n : Int) (W : World) : Calls Tryd.prog 51 #[.int .i64 n] W fun e w' => e = .returned (.bool (pow2 n)) ∧ Below W.heap.size W w' := by
 by_cases h : 0 < n
 ·have d0 : decide (0 < n) = true := decide_eq_true h
  go_enter Tryd.func51, Tryd.ntmps51
  go_wp2
  go_ret
  refine ⟨?_, Below.refl _ _⟩
  unfold pow2
  rw [if_pos h]
  rfl
 ·have d0 : decide (0 < n) = false := decide_eq_false h
  go_enter Tryd.func51, Tryd.ntmps51
  go_wp2
  go_ret
  refine ⟨?_, Below.refl _ _⟩
  unfold pow2
  rw [if_neg (Int.not_lt.2 h)]
  rfl
set_option maxRecDepth 100000 in
theorem right_0 (B P Z R : Int) (W : World) (c0 : decide ((16 : Int) ≤ B) = false) : Calls Tryd.prog 28 #[.agg #[.int .i64 B, .int .i64 P, .int .i64 Z, .int .i64 R]] W fun e w' => e = .returned (.bool false) ∧ Below W.heap.size W w' := by
 go_enter Tryd.func28, Tryd.ntmps28
 go_upto_region 1 with (fail)
 generalize hW : W.alloc (.cells #[.int .i64 B, .int .i64 P, .int .i64 Z, .int .i64 R] 37) = W1
 have hb : Below W.heap.size W W1 := by rw [← hW]; exact below_alloc (Below.refl _ _) _
 have hg : W1.heap[W.heap.size]? = some (.cells #[.int .i64 B, .int .i64 P, .int .i64 Z, .int .i64 R] 37 (0, 0)) := by rw [← hW]; exact new_blk _ _ _
 have g0 := fun (w' : World) (h : Below W1.heap.size W1 w') => Joins.cell_of_block (keep_below hg h) 0
 have g1 := fun (w' : World) (h : Below W1.heap.size W1 w') => Joins.cell_of_block (keep_below hg h) 1
 have g2 := fun (w' : World) (h : Below W1.heap.size W1 w') => Joins.cell_of_block (keep_below hg h) 2
 have g3 := fun (w' : World) (h : Below W1.heap.size W1 w') => Joins.cell_of_block (keep_below hg h) 3
 have G0 := Aside0.mk g0
 have G1 := Aside0.mk g1
 have G2 := Aside0.mk g2
 have G3 := Aside0.mk g3
 have HB := Aside0.mk hb
 have a0 := g0 W1 (Below.refl _ _)
 have a1 := g1 W1 (Below.refl _ _)
 have a2 := g2 W1 (Below.refl _ _)
 have a3 := g3 W1 (Below.refl _ _)
 clear hW hb hg g0 g1 g2 g3
 go_wp2
 go_ret
 exact ⟨rfl, HB.out⟩
set_option maxRecDepth 100000 in
theorem right_1 (B P Z R : Int) (W : World) (c0 : decide ((16 : Int) ≤ B) = true) (c1 : decide (B ≤ (256 : Int)) = false) : Calls Tryd.prog 28 #[.agg #[.int .i64 B, .int .i64 P, .int .i64 Z, .int .i64 R]] W fun e w' => e = .returned (.bool false) ∧ Below W.heap.size W w' := by
 go_enter Tryd.func28, Tryd.ntmps28
 go_upto_region 1 with (fail)
 generalize hW : W.alloc (.cells #[.int .i64 B, .int .i64 P, .int .i64 Z, .int .i64 R] 37) = W1
 have hb : Below W.heap.size W W1 := by rw [← hW]; exact below_alloc (Below.refl _ _) _
 have hg : W1.heap[W.heap.size]? = some (.cells #[.int .i64 B, .int .i64 P, .int .i64 Z, .int .i64 R] 37 (0, 0)) := by rw [← hW]; exact new_blk _ _ _
 have g0 := fun (w' : World) (h : Below W1.heap.size W1 w') => Joins.cell_of_block (keep_below hg h) 0
 have g1 := fun (w' : World) (h : Below W1.heap.size W1 w') => Joins.cell_of_block (keep_below hg h) 1
 have g2 := fun (w' : World) (h : Below W1.heap.size W1 w') => Joins.cell_of_block (keep_below hg h) 2
 have g3 := fun (w' : World) (h : Below W1.heap.size W1 w') => Joins.cell_of_block (keep_below hg h) 3
 have G0 := Aside0.mk g0
 have G1 := Aside0.mk g1
 have G2 := Aside0.mk g2
 have G3 := Aside0.mk g3
 have HB := Aside0.mk hb
 have a0 := g0 W1 (Below.refl _ _)
 have a1 := g1 W1 (Below.refl _ _)
 have a2 := g2 W1 (Below.refl _ _)
 have a3 := g3 W1 (Below.refl _ _)
 clear hW hb hg g0 g1 g2 g3
 go_wp2
 go_ret
 exact ⟨rfl, HB.out⟩
set_option maxRecDepth 100000 in
theorem right_2 (B P Z R : Int) (W : World) (c0 : decide ((16 : Int) ≤ B) = true) (c1 : decide (B ≤ (256 : Int)) = true) (c2 : decide ((8 : Int) ≤ P) = false) : Calls Tryd.prog 28 #[.agg #[.int .i64 B, .int .i64 P, .int .i64 Z, .int .i64 R]] W fun e w' => e = .returned (.bool false) ∧ Below W.heap.size W w' := by
 go_enter Tryd.func28, Tryd.ntmps28
 go_upto_region 1 with (fail)
 generalize hW : W.alloc (.cells #[.int .i64 B, .int .i64 P, .int .i64 Z, .int .i64 R] 37) = W1
 have hb : Below W.heap.size W W1 := by rw [← hW]; exact below_alloc (Below.refl _ _) _
 have hg : W1.heap[W.heap.size]? = some (.cells #[.int .i64 B, .int .i64 P, .int .i64 Z, .int .i64 R] 37 (0, 0)) := by rw [← hW]; exact new_blk _ _ _
 have g0 := fun (w' : World) (h : Below W1.heap.size W1 w') => Joins.cell_of_block (keep_below hg h) 0
 have g1 := fun (w' : World) (h : Below W1.heap.size W1 w') => Joins.cell_of_block (keep_below hg h) 1
 have g2 := fun (w' : World) (h : Below W1.heap.size W1 w') => Joins.cell_of_block (keep_below hg h) 2
 have g3 := fun (w' : World) (h : Below W1.heap.size W1 w') => Joins.cell_of_block (keep_below hg h) 3
 have G0 := Aside0.mk g0
 have G1 := Aside0.mk g1
 have G2 := Aside0.mk g2
 have G3 := Aside0.mk g3
 have HB := Aside0.mk hb
 have a0 := g0 W1 (Below.refl _ _)
 have a1 := g1 W1 (Below.refl _ _)
 have a2 := g2 W1 (Below.refl _ _)
 have a3 := g3 W1 (Below.refl _ _)
 clear hW hb hg g0 g1 g2 g3
 go_wp2
 go_ret
 exact ⟨rfl, HB.out⟩
set_option maxRecDepth 100000 in
theorem right_3 (B P Z R : Int) (W : World) (c0 : decide ((16 : Int) ≤ B) = true) (c1 : decide (B ≤ (256 : Int)) = true) (c2 : decide ((8 : Int) ≤ P) = true) (c3 : decide (P ≤ (64 : Int)) = false) : Calls Tryd.prog 28 #[.agg #[.int .i64 B, .int .i64 P, .int .i64 Z, .int .i64 R]] W fun e w' => e = .returned (.bool false) ∧ Below W.heap.size W w' := by
 go_enter Tryd.func28, Tryd.ntmps28
 go_upto_region 1 with (fail)
 generalize hW : W.alloc (.cells #[.int .i64 B, .int .i64 P, .int .i64 Z, .int .i64 R] 37) = W1
 have hb : Below W.heap.size W W1 := by rw [← hW]; exact below_alloc (Below.refl _ _) _
 have hg : W1.heap[W.heap.size]? = some (.cells #[.int .i64 B, .int .i64 P, .int .i64 Z, .int .i64 R] 37 (0, 0)) := by rw [← hW]; exact new_blk _ _ _
 have g0 := fun (w' : World) (h : Below W1.heap.size W1 w') => Joins.cell_of_block (keep_below hg h) 0
 have g1 := fun (w' : World) (h : Below W1.heap.size W1 w') => Joins.cell_of_block (keep_below hg h) 1
 have g2 := fun (w' : World) (h : Below W1.heap.size W1 w') => Joins.cell_of_block (keep_below hg h) 2
 have g3 := fun (w' : World) (h : Below W1.heap.size W1 w') => Joins.cell_of_block (keep_below hg h) 3
 have G0 := Aside0.mk g0
 have G1 := Aside0.mk g1
 have G2 := Aside0.mk g2
 have G3 := Aside0.mk g3
 have HB := Aside0.mk hb
 have a0 := g0 W1 (Below.refl _ _)
 have a1 := g1 W1 (Below.refl _ _)
 have a2 := g2 W1 (Below.refl _ _)
 have a3 := g3 W1 (Below.refl _ _)
 clear hW hb hg g0 g1 g2 g3
 go_wp2
 go_ret
 exact ⟨rfl, HB.out⟩
set_option maxRecDepth 100000 in
theorem right_4 (B P Z R : Int) (W : World) (c0 : decide ((16 : Int) ≤ B) = true) (c1 : decide (B ≤ (256 : Int)) = true) (c2 : decide ((8 : Int) ≤ P) = true) (c3 : decide (P ≤ (64 : Int)) = true) (c4 : pow2 P = false) : Calls Tryd.prog 28 #[.agg #[.int .i64 B, .int .i64 P, .int .i64 Z, .int .i64 R]] W fun e w' => e = .returned (.bool false) ∧ Below W.heap.size W w' := by
 go_enter Tryd.func28, Tryd.ntmps28
 go_upto_region 1 with (fail)
 generalize hW : W.alloc (.cells #[.int .i64 B, .int .i64 P, .int .i64 Z, .int .i64 R] 37) = W1
 have hb : Below W.heap.size W W1 := by rw [← hW]; exact below_alloc (Below.refl _ _) _
 have hg : W1.heap[W.heap.size]? = some (.cells #[.int .i64 B, .int .i64 P, .int .i64 Z, .int .i64 R] 37 (0, 0)) := by rw [← hW]; exact new_blk _ _ _
 have g0 := fun (w' : World) (h : Below W1.heap.size W1 w') => Joins.cell_of_block (keep_below hg h) 0
 have g1 := fun (w' : World) (h : Below W1.heap.size W1 w') => Joins.cell_of_block (keep_below hg h) 1
 have g2 := fun (w' : World) (h : Below W1.heap.size W1 w') => Joins.cell_of_block (keep_below hg h) 2
 have g3 := fun (w' : World) (h : Below W1.heap.size W1 w') => Joins.cell_of_block (keep_below hg h) 3
 have G0 := Aside0.mk g0
 have G1 := Aside0.mk g1
 have G2 := Aside0.mk g2
 have G3 := Aside0.mk g3
 have HB := Aside0.mk hb
 have a0 := g0 W1 (Below.refl _ _)
 have a1 := g1 W1 (Below.refl _ _)
 have a2 := g2 W1 (Below.refl _ _)
 have a3 := g3 W1 (Below.refl _ _)
 clear hW hb hg g0 g1 g2 g3
 go_wp2_with (first
  | (go_at_call 51; (with_reducible refine (power_fn P _).mono ?_); rintro e w2 ⟨rfl, hb2⟩; have HB2 := Aside0.mk hb2; clear hb2))
 go_ret
 exact ⟨rfl, below_step HB.out HB2.out⟩
set_option maxRecDepth 100000 in
theorem right_5 (B P Z R : Int) (W : World) (c0 : decide ((16 : Int) ≤ B) = true) (c1 : decide (B ≤ (256 : Int)) = true) (c2 : decide ((8 : Int) ≤ P) = true) (c3 : decide (P ≤ (64 : Int)) = true) (c4 : pow2 P = true) (c5 : decide ((64 : Int) ≤ Z) = false) : Calls Tryd.prog 28 #[.agg #[.int .i64 B, .int .i64 P, .int .i64 Z, .int .i64 R]] W fun e w' => e = .returned (.bool false) ∧ Below W.heap.size W w' := by
 go_enter Tryd.func28, Tryd.ntmps28
 go_upto_region 1 with (fail)
 generalize hW : W.alloc (.cells #[.int .i64 B, .int .i64 P, .int .i64 Z, .int .i64 R] 37) = W1
 have hb : Below W.heap.size W W1 := by rw [← hW]; exact below_alloc (Below.refl _ _) _
 have hg : W1.heap[W.heap.size]? = some (.cells #[.int .i64 B, .int .i64 P, .int .i64 Z, .int .i64 R] 37 (0, 0)) := by rw [← hW]; exact new_blk _ _ _
 have g0 := fun (w' : World) (h : Below W1.heap.size W1 w') => Joins.cell_of_block (keep_below hg h) 0
 have g1 := fun (w' : World) (h : Below W1.heap.size W1 w') => Joins.cell_of_block (keep_below hg h) 1
 have g2 := fun (w' : World) (h : Below W1.heap.size W1 w') => Joins.cell_of_block (keep_below hg h) 2
 have g3 := fun (w' : World) (h : Below W1.heap.size W1 w') => Joins.cell_of_block (keep_below hg h) 3
 have G0 := Aside0.mk g0
 have G1 := Aside0.mk g1
 have G2 := Aside0.mk g2
 have G3 := Aside0.mk g3
 have HB := Aside0.mk hb
 have a0 := g0 W1 (Below.refl _ _)
 have a1 := g1 W1 (Below.refl _ _)
 have a2 := g2 W1 (Below.refl _ _)
 have a3 := g3 W1 (Below.refl _ _)
 clear hW hb hg g0 g1 g2 g3
 go_wp2_with (first
  | (go_at_call 51; (with_reducible refine (power_fn P _).mono ?_); rintro e w2 ⟨rfl, hb2⟩; have HB2 := Aside0.mk hb2; have b0 := G0.out w2 hb2; have b1 := G1.out w2 hb2; have b2 := G2.out w2 hb2; have b3 := G3.out w2 hb2; clear hb2))
 go_ret
 exact ⟨rfl, below_step HB.out HB2.out⟩
set_option maxRecDepth 100000 in
theorem right_6 (B P Z R : Int) (W : World) (c0 : decide ((16 : Int) ≤ B) = true) (c1 : decide (B ≤ (256 : Int)) = true) (c2 : decide ((8 : Int) ≤ P) = true) (c3 : decide (P ≤ (64 : Int)) = true) (c4 : pow2 P = true) (c5 : decide ((64 : Int) ≤ Z) = true) (c6 : decide (Z ≤ (512 : Int)) = false) : Calls Tryd.prog 28 #[.agg #[.int .i64 B, .int .i64 P, .int .i64 Z, .int .i64 R]] W fun e w' => e = .returned (.bool false) ∧ Below W.heap.size W w' := by
 go_enter Tryd.func28, Tryd.ntmps28
 go_upto_region 1 with (fail)
 generalize hW : W.alloc (.cells #[.int .i64 B, .int .i64 P, .int .i64 Z, .int .i64 R] 37) = W1
 have hb : Below W.heap.size W W1 := by rw [← hW]; exact below_alloc (Below.refl _ _) _
 have hg : W1.heap[W.heap.size]? = some (.cells #[.int .i64 B, .int .i64 P, .int .i64 Z, .int .i64 R] 37 (0, 0)) := by rw [← hW]; exact new_blk _ _ _
 have g0 := fun (w' : World) (h : Below W1.heap.size W1 w') => Joins.cell_of_block (keep_below hg h) 0
 have g1 := fun (w' : World) (h : Below W1.heap.size W1 w') => Joins.cell_of_block (keep_below hg h) 1
 have g2 := fun (w' : World) (h : Below W1.heap.size W1 w') => Joins.cell_of_block (keep_below hg h) 2
 have g3 := fun (w' : World) (h : Below W1.heap.size W1 w') => Joins.cell_of_block (keep_below hg h) 3
 have G0 := Aside0.mk g0
 have G1 := Aside0.mk g1
 have G2 := Aside0.mk g2
 have G3 := Aside0.mk g3
 have HB := Aside0.mk hb
 have a0 := g0 W1 (Below.refl _ _)
 have a1 := g1 W1 (Below.refl _ _)
 have a2 := g2 W1 (Below.refl _ _)
 have a3 := g3 W1 (Below.refl _ _)
 clear hW hb hg g0 g1 g2 g3
 go_wp2_with (first
  | (go_at_call 51; (with_reducible refine (power_fn P _).mono ?_); rintro e w2 ⟨rfl, hb2⟩; have HB2 := Aside0.mk hb2; have b0 := G0.out w2 hb2; have b1 := G1.out w2 hb2; have b2 := G2.out w2 hb2; have b3 := G3.out w2 hb2; clear hb2))
 go_ret
 exact ⟨rfl, below_step HB.out HB2.out⟩
set_option maxRecDepth 100000 in
theorem right_7 (B P Z R : Int) (W : World) (c0 : decide ((16 : Int) ≤ B) = true) (c1 : decide (B ≤ (256 : Int)) = true) (c2 : decide ((8 : Int) ≤ P) = true) (c3 : decide (P ≤ (64 : Int)) = true) (c4 : pow2 P = true) (c5 : decide ((64 : Int) ≤ Z) = true) (c6 : decide (Z ≤ (512 : Int)) = true) (c7 : pow2 Z = false) : Calls Tryd.prog 28 #[.agg #[.int .i64 B, .int .i64 P, .int .i64 Z, .int .i64 R]] W fun e w' => e = .returned (.bool false) ∧ Below W.heap.size W w' := by
 go_enter Tryd.func28, Tryd.ntmps28
 go_upto_region 1 with (fail)
 generalize hW : W.alloc (.cells #[.int .i64 B, .int .i64 P, .int .i64 Z, .int .i64 R] 37) = W1
 have hb : Below W.heap.size W W1 := by rw [← hW]; exact below_alloc (Below.refl _ _) _
 have hg : W1.heap[W.heap.size]? = some (.cells #[.int .i64 B, .int .i64 P, .int .i64 Z, .int .i64 R] 37 (0, 0)) := by rw [← hW]; exact new_blk _ _ _
 have g0 := fun (w' : World) (h : Below W1.heap.size W1 w') => Joins.cell_of_block (keep_below hg h) 0
 have g1 := fun (w' : World) (h : Below W1.heap.size W1 w') => Joins.cell_of_block (keep_below hg h) 1
 have g2 := fun (w' : World) (h : Below W1.heap.size W1 w') => Joins.cell_of_block (keep_below hg h) 2
 have g3 := fun (w' : World) (h : Below W1.heap.size W1 w') => Joins.cell_of_block (keep_below hg h) 3
 have G0 := Aside0.mk g0
 have G1 := Aside0.mk g1
 have G2 := Aside0.mk g2
 have G3 := Aside0.mk g3
 have HB := Aside0.mk hb
 have a0 := g0 W1 (Below.refl _ _)
 have a1 := g1 W1 (Below.refl _ _)
 have a2 := g2 W1 (Below.refl _ _)
 have a3 := g3 W1 (Below.refl _ _)
 clear hW hb hg g0 g1 g2 g3
 go_wp2_with (first
  | (go_at_call 51; (with_reducible refine (power_fn P _).mono ?_); rintro e w2 ⟨rfl, hb2⟩; have HB2 := Aside0.mk hb2; have b0 := G0.out w2 hb2; have b1 := G1.out w2 hb2; have b2 := G2.out w2 hb2; have b3 := G3.out w2 hb2; clear hb2)
  | (go_at_call 51; (with_reducible refine (power_fn Z _).mono ?_); rintro e w3 ⟨rfl, hb3⟩; have HB3 := Aside0.mk (below_step HB2.out hb3); clear hb3))
 go_ret
 exact ⟨rfl, below_step HB.out HB3.out⟩
set_option maxRecDepth 100000 in
theorem right_8 (B P Z R : Int) (W : World) (c0 : decide ((16 : Int) ≤ B) = true) (c1 : decide (B ≤ (256 : Int)) = true) (c2 : decide ((8 : Int) ≤ P) = true) (c3 : decide (P ≤ (64 : Int)) = true) (c4 : pow2 P = true) (c5 : decide ((64 : Int) ≤ Z) = true) (c6 : decide (Z ≤ (512 : Int)) = true) (c7 : pow2 Z = true) (c8 : decide ((1536 : Int) ≤ wrap64 (wrap64 (P - 2) * Z)) = false) : Calls Tryd.prog 28 #[.agg #[.int .i64 B, .int .i64 P, .int .i64 Z, .int .i64 R]] W fun e w' => e = .returned (.bool false) ∧ Below W.heap.size W w' := by
 go_enter Tryd.func28, Tryd.ntmps28
 go_upto_region 1 with (fail)
 generalize hW : W.alloc (.cells #[.int .i64 B, .int .i64 P, .int .i64 Z, .int .i64 R] 37) = W1
 have hb : Below W.heap.size W W1 := by rw [← hW]; exact below_alloc (Below.refl _ _) _
 have hg : W1.heap[W.heap.size]? = some (.cells #[.int .i64 B, .int .i64 P, .int .i64 Z, .int .i64 R] 37 (0, 0)) := by rw [← hW]; exact new_blk _ _ _
 have g0 := fun (w' : World) (h : Below W1.heap.size W1 w') => Joins.cell_of_block (keep_below hg h) 0
 have g1 := fun (w' : World) (h : Below W1.heap.size W1 w') => Joins.cell_of_block (keep_below hg h) 1
 have g2 := fun (w' : World) (h : Below W1.heap.size W1 w') => Joins.cell_of_block (keep_below hg h) 2
 have g3 := fun (w' : World) (h : Below W1.heap.size W1 w') => Joins.cell_of_block (keep_below hg h) 3
 have G0 := Aside0.mk g0
 have G1 := Aside0.mk g1
 have G2 := Aside0.mk g2
 have G3 := Aside0.mk g3
 have HB := Aside0.mk hb
 have a0 := g0 W1 (Below.refl _ _)
 have a1 := g1 W1 (Below.refl _ _)
 have a2 := g2 W1 (Below.refl _ _)
 have a3 := g3 W1 (Below.refl _ _)
 clear hW hb hg g0 g1 g2 g3
 go_wp2_with (first
  | (go_at_call 51; (with_reducible refine (power_fn P _).mono ?_); rintro e w2 ⟨rfl, hb2⟩; have HB2 := Aside0.mk hb2; have b0 := G0.out w2 hb2; have b1 := G1.out w2 hb2; have b2 := G2.out w2 hb2; have b3 := G3.out w2 hb2; clear hb2)
  | (go_at_call 51; (with_reducible refine (power_fn Z _).mono ?_); rintro e w3 ⟨rfl, hb3⟩; have hb4 := below_step HB2.out hb3; have HB3 := Aside0.mk hb4; have e0 := G0.out w3 hb4; have e1 := G1.out w3 hb4; have e2 := G2.out w3 hb4; have e3 := G3.out w3 hb4; clear hb3 hb4))
 go_ret
 exact ⟨rfl, below_step HB.out HB3.out⟩
set_option maxRecDepth 100000 in
theorem right_9 (B P Z R : Int) (W : World) (c0 : decide ((16 : Int) ≤ B) = true) (c1 : decide (B ≤ (256 : Int)) = true) (c2 : decide ((8 : Int) ≤ P) = true) (c3 : decide (P ≤ (64 : Int)) = true) (c4 : pow2 P = true) (c5 : decide ((64 : Int) ≤ Z) = true) (c6 : decide (Z ≤ (512 : Int)) = true) (c7 : pow2 Z = true) (c8 : decide ((1536 : Int) ≤ wrap64 (wrap64 (P - 2) * Z)) = true) (c9 : decide ((0 : Int) ≤ R) = false) : Calls Tryd.prog 28 #[.agg #[.int .i64 B, .int .i64 P, .int .i64 Z, .int .i64 R]] W fun e w' => e = .returned (.bool false) ∧ Below W.heap.size W w' := by
 go_enter Tryd.func28, Tryd.ntmps28
 go_upto_region 1 with (fail)
 generalize hW : W.alloc (.cells #[.int .i64 B, .int .i64 P, .int .i64 Z, .int .i64 R] 37) = W1
 have hb : Below W.heap.size W W1 := by rw [← hW]; exact below_alloc (Below.refl _ _) _
 have hg : W1.heap[W.heap.size]? = some (.cells #[.int .i64 B, .int .i64 P, .int .i64 Z, .int .i64 R] 37 (0, 0)) := by rw [← hW]; exact new_blk _ _ _
 have g0 := fun (w' : World) (h : Below W1.heap.size W1 w') => Joins.cell_of_block (keep_below hg h) 0
 have g1 := fun (w' : World) (h : Below W1.heap.size W1 w') => Joins.cell_of_block (keep_below hg h) 1
 have g2 := fun (w' : World) (h : Below W1.heap.size W1 w') => Joins.cell_of_block (keep_below hg h) 2
 have g3 := fun (w' : World) (h : Below W1.heap.size W1 w') => Joins.cell_of_block (keep_below hg h) 3
 have G0 := Aside0.mk g0
 have G1 := Aside0.mk g1
 have G2 := Aside0.mk g2
 have G3 := Aside0.mk g3
 have HB := Aside0.mk hb
 have a0 := g0 W1 (Below.refl _ _)
 have a1 := g1 W1 (Below.refl _ _)
 have a2 := g2 W1 (Below.refl _ _)
 have a3 := g3 W1 (Below.refl _ _)
 clear hW hb hg g0 g1 g2 g3
 go_wp2_with (first
  | (go_at_call 51; (with_reducible refine (power_fn P _).mono ?_); rintro e w2 ⟨rfl, hb2⟩; have HB2 := Aside0.mk hb2; have b0 := G0.out w2 hb2; have b1 := G1.out w2 hb2; have b2 := G2.out w2 hb2; have b3 := G3.out w2 hb2; clear hb2)
  | (go_at_call 51; (with_reducible refine (power_fn Z _).mono ?_); rintro e w3 ⟨rfl, hb3⟩; have hb4 := below_step HB2.out hb3; have HB3 := Aside0.mk hb4; have e0 := G0.out w3 hb4; have e1 := G1.out w3 hb4; have e2 := G2.out w3 hb4; have e3 := G3.out w3 hb4; clear hb3 hb4))
 go_ret
 exact ⟨rfl, below_step HB.out HB3.out⟩
set_option maxRecDepth 100000 in
theorem right_10 (B P Z R : Int) (W : World) (c0 : decide ((16 : Int) ≤ B) = true) (c1 : decide (B ≤ (256 : Int)) = true) (c2 : decide ((8 : Int) ≤ P) = true) (c3 : decide (P ≤ (64 : Int)) = true) (c4 : pow2 P = true) (c5 : decide ((64 : Int) ≤ Z) = true) (c6 : decide (Z ≤ (512 : Int)) = true) (c7 : pow2 Z = true) (c8 : decide ((1536 : Int) ≤ wrap64 (wrap64 (P - 2) * Z)) = true) (c9 : decide ((0 : Int) ≤ R) = true) (c10 : decide (R ≤ wrap64 (B.tdiv 4)) = false) : Calls Tryd.prog 28 #[.agg #[.int .i64 B, .int .i64 P, .int .i64 Z, .int .i64 R]] W fun e w' => e = .returned (.bool false) ∧ Below W.heap.size W w' := by
 go_enter Tryd.func28, Tryd.ntmps28
 go_upto_region 1 with (fail)
 generalize hW : W.alloc (.cells #[.int .i64 B, .int .i64 P, .int .i64 Z, .int .i64 R] 37) = W1
 have hb : Below W.heap.size W W1 := by rw [← hW]; exact below_alloc (Below.refl _ _) _
 have hg : W1.heap[W.heap.size]? = some (.cells #[.int .i64 B, .int .i64 P, .int .i64 Z, .int .i64 R] 37 (0, 0)) := by rw [← hW]; exact new_blk _ _ _
 have g0 := fun (w' : World) (h : Below W1.heap.size W1 w') => Joins.cell_of_block (keep_below hg h) 0
 have g1 := fun (w' : World) (h : Below W1.heap.size W1 w') => Joins.cell_of_block (keep_below hg h) 1
 have g2 := fun (w' : World) (h : Below W1.heap.size W1 w') => Joins.cell_of_block (keep_below hg h) 2
 have g3 := fun (w' : World) (h : Below W1.heap.size W1 w') => Joins.cell_of_block (keep_below hg h) 3
 have G0 := Aside0.mk g0
 have G1 := Aside0.mk g1
 have G2 := Aside0.mk g2
 have G3 := Aside0.mk g3
 have HB := Aside0.mk hb
 have a0 := g0 W1 (Below.refl _ _)
 have a1 := g1 W1 (Below.refl _ _)
 have a2 := g2 W1 (Below.refl _ _)
 have a3 := g3 W1 (Below.refl _ _)
 clear hW hb hg g0 g1 g2 g3
 go_wp2_with (first
  | (go_at_call 51; (with_reducible refine (power_fn P _).mono ?_); rintro e w2 ⟨rfl, hb2⟩; have HB2 := Aside0.mk hb2; have b0 := G0.out w2 hb2; have b1 := G1.out w2 hb2; have b2 := G2.out w2 hb2; have b3 := G3.out w2 hb2; clear hb2)
  | (go_at_call 51; (with_reducible refine (power_fn Z _).mono ?_); rintro e w3 ⟨rfl, hb3⟩; have hb4 := below_step HB2.out hb3; have HB3 := Aside0.mk hb4; have e0 := G0.out w3 hb4; have e1 := G1.out w3 hb4; have e2 := G2.out w3 hb4; have e3 := G3.out w3 hb4; clear hb3 hb4))
 go_ret
 exact ⟨rfl, below_step HB.out HB3.out⟩
set_option maxRecDepth 100000 in
theorem right_11 (B P Z R : Int) (W : World) (c0 : decide ((16 : Int) ≤ B) = true) (c1 : decide (B ≤ (256 : Int)) = true) (c2 : decide ((8 : Int) ≤ P) = true) (c3 : decide (P ≤ (64 : Int)) = true) (c4 : pow2 P = true) (c5 : decide ((64 : Int) ≤ Z) = true) (c6 : decide (Z ≤ (512 : Int)) = true) (c7 : pow2 Z = true) (c8 : decide ((1536 : Int) ≤ wrap64 (wrap64 (P - 2) * Z)) = true) (c9 : decide ((0 : Int) ≤ R) = true) (c10 : decide (R ≤ wrap64 (B.tdiv 4)) = true) : Calls Tryd.prog 28 #[.agg #[.int .i64 B, .int .i64 P, .int .i64 Z, .int .i64 R]] W fun e w' => e = .returned (.bool true) ∧ Below W.heap.size W w' := by
 go_enter Tryd.func28, Tryd.ntmps28
 go_upto_region 1 with (fail)
 generalize hW : W.alloc (.cells #[.int .i64 B, .int .i64 P, .int .i64 Z, .int .i64 R] 37) = W1
 have hb : Below W.heap.size W W1 := by rw [← hW]; exact below_alloc (Below.refl _ _) _
 have hg : W1.heap[W.heap.size]? = some (.cells #[.int .i64 B, .int .i64 P, .int .i64 Z, .int .i64 R] 37 (0, 0)) := by rw [← hW]; exact new_blk _ _ _
 have g0 := fun (w' : World) (h : Below W1.heap.size W1 w') => Joins.cell_of_block (keep_below hg h) 0
 have g1 := fun (w' : World) (h : Below W1.heap.size W1 w') => Joins.cell_of_block (keep_below hg h) 1
 have g2 := fun (w' : World) (h : Below W1.heap.size W1 w') => Joins.cell_of_block (keep_below hg h) 2
 have g3 := fun (w' : World) (h : Below W1.heap.size W1 w') => Joins.cell_of_block (keep_below hg h) 3
 have G0 := Aside0.mk g0
 have G1 := Aside0.mk g1
 have G2 := Aside0.mk g2
 have G3 := Aside0.mk g3
 have HB := Aside0.mk hb
 have a0 := g0 W1 (Below.refl _ _)
 have a1 := g1 W1 (Below.refl _ _)
 have a2 := g2 W1 (Below.refl _ _)
 have a3 := g3 W1 (Below.refl _ _)
 clear hW hb hg g0 g1 g2 g3
 go_wp2_with (first
  | (go_at_call 51; (with_reducible refine (power_fn P _).mono ?_); rintro e w2 ⟨rfl, hb2⟩; have HB2 := Aside0.mk hb2; have b0 := G0.out w2 hb2; have b1 := G1.out w2 hb2; have b2 := G2.out w2 hb2; have b3 := G3.out w2 hb2; clear hb2)
  | (go_at_call 51; (with_reducible refine (power_fn Z _).mono ?_); rintro e w3 ⟨rfl, hb3⟩; have hb4 := below_step HB2.out hb3; have HB3 := Aside0.mk hb4; have e0 := G0.out w3 hb4; have e1 := G1.out w3 hb4; have e2 := G2.out w3 hb4; have e3 := G3.out w3 hb4; clear hb3 hb4))
 go_ret
 exact ⟨rfl, below_step HB.out HB3.out⟩
def rightG (B P Z R : Int) : Bool := decide ((16 : Int) ≤ B) && (decide (B ≤ (256 : Int)) && (decide ((8 : Int) ≤ P) && (decide (P ≤ (64 : Int)) && (pow2 P && (decide ((64 : Int) ≤ Z) && (decide (Z ≤ (512 : Int)) && (pow2 Z && (decide ((1536 : Int) ≤ wrap64 (wrap64 (P - 2) * Z)) && (decide ((0 : Int) ≤ R) && (decide (R ≤ wrap64 (B.tdiv 4))))))))))))
theorem right_is (B P Z R : Int) (W : World) : Calls Tryd.prog 28 #[.agg #[.int .i64 B, .int .i64 P, .int .i64 Z, .int .i64 R]] W fun e w' => e = .returned (.bool (rightG B P Z R)) ∧ Below W.heap.size W w' := by
 cases c0 : decide ((16 : Int) ≤ B) with
 | false => refine (right_0 B P Z R W c0).mono ?_; rintro e w' ⟨rfl, hb⟩; exact ⟨by unfold rightG; simp only [c0, Bool.true_and, Bool.false_and], hb⟩
 | true =>
 cases c1 : decide (B ≤ (256 : Int)) with
 | false => refine (right_1 B P Z R W c0 c1).mono ?_; rintro e w' ⟨rfl, hb⟩; exact ⟨by unfold rightG; simp only [c0, c1, Bool.true_and, Bool.false_and], hb⟩
 | true =>
 cases c2 : decide ((8 : Int) ≤ P) with
 | false => refine (right_2 B P Z R W c0 c1 c2).mono ?_; rintro e w' ⟨rfl, hb⟩; exact ⟨by unfold rightG; simp only [c0, c1, c2, Bool.true_and, Bool.false_and], hb⟩
 | true =>
 cases c3 : decide (P ≤ (64 : Int)) with
 | false => refine (right_3 B P Z R W c0 c1 c2 c3).mono ?_; rintro e w' ⟨rfl, hb⟩; exact ⟨by unfold rightG; simp only [c0, c1, c2, c3, Bool.true_and, Bool.false_and], hb⟩
 | true =>
 cases c4 : pow2 P with
 | false => refine (right_4 B P Z R W c0 c1 c2 c3 c4).mono ?_; rintro e w' ⟨rfl, hb⟩; exact ⟨by unfold rightG; simp only [c0, c1, c2, c3, c4, Bool.true_and, Bool.false_and], hb⟩
 | true =>
 cases c5 : decide ((64 : Int) ≤ Z) with
 | false => refine (right_5 B P Z R W c0 c1 c2 c3 c4 c5).mono ?_; rintro e w' ⟨rfl, hb⟩; exact ⟨by unfold rightG; simp only [c0, c1, c2, c3, c4, c5, Bool.true_and, Bool.false_and], hb⟩
 | true =>
 cases c6 : decide (Z ≤ (512 : Int)) with
 | false => refine (right_6 B P Z R W c0 c1 c2 c3 c4 c5 c6).mono ?_; rintro e w' ⟨rfl, hb⟩; exact ⟨by unfold rightG; simp only [c0, c1, c2, c3, c4, c5, c6, Bool.true_and, Bool.false_and], hb⟩
 | true =>
 cases c7 : pow2 Z with
 | false => refine (right_7 B P Z R W c0 c1 c2 c3 c4 c5 c6 c7).mono ?_; rintro e w' ⟨rfl, hb⟩; exact ⟨by unfold rightG; simp only [c0, c1, c2, c3, c4, c5, c6, c7, Bool.true_and, Bool.false_and], hb⟩
 | true =>
 cases c8 : decide ((1536 : Int) ≤ wrap64 (wrap64 (P - 2) * Z)) with
 | false => refine (right_8 B P Z R W c0 c1 c2 c3 c4 c5 c6 c7 c8).mono ?_; rintro e w' ⟨rfl, hb⟩; exact ⟨by unfold rightG; simp only [c0, c1, c2, c3, c4, c5, c6, c7, c8, Bool.true_and, Bool.false_and], hb⟩
 | true =>
 cases c9 : decide ((0 : Int) ≤ R) with
 | false => refine (right_9 B P Z R W c0 c1 c2 c3 c4 c5 c6 c7 c8 c9).mono ?_; rintro e w' ⟨rfl, hb⟩; exact ⟨by unfold rightG; simp only [c0, c1, c2, c3, c4, c5, c6, c7, c8, c9, Bool.true_and, Bool.false_and], hb⟩
 | true =>
 cases c10 : decide (R ≤ wrap64 (B.tdiv 4)) with
 | false => refine (right_10 B P Z R W c0 c1 c2 c3 c4 c5 c6 c7 c8 c9 c10).mono ?_; rintro e w' ⟨rfl, hb⟩; exact ⟨by unfold rightG; simp only [c0, c1, c2, c3, c4, c5, c6, c7, c8, c9, c10, Bool.true_and, Bool.false_and], hb⟩
 | true =>
 refine (right_11 B P Z R W c0 c1 c2 c3 c4 c5 c6 c7 c8 c9 c10).mono ?_; rintro e w' ⟨rfl, hb⟩; exact ⟨by unfold rightG; simp only [c0, c1, c2, c3, c4, c5, c6, c7, c8, c9, c10, Bool.true_and], hb⟩
end Go.Proofs.YtdlimghdimkadaaDoor.PAll
namespace Go.Proofs.YtdlimghdimkadaaDoor.PAll
open Go.RowKit Go.Proofs.YtdlimghdimkadaaDoorW.PrintWords Go.Proofs.YtdlimghdimkadaaDoorW.PrintLast Go.Proofs.YtdlimghdimkadaaDoorW.PrintMore
set_option linter.unusedSimpArgs false
set_option linter.unusedVariables false
attribute [local go_sem] max2_int min2_int max_two min_two max_three min_three max_four min_four
theorem any_hit {l : List F3} {t : Int} {i : Nat} {f : F3} (hg : l[i]? = some f) (hf : (f.f0 == t) = true) : l.any (fun f => f.f0 == t) = true :=
 List.any_eq_true.2 ⟨f, List.mem_of_getElem? hg, hf⟩
theorem any_next {l : List F3} {t : Int} {i : Nat} {f : F3} (h : (l.take i).any (fun f => f.f0 == t) = false) (hg : l[i]? = some f) (hf : (f.f0 == t) = false) : (l.take (i + 1)).any (fun f => f.f0 == t) = false := by
 obtain ⟨hlt, rfl⟩ := List.getElem?_eq_some_iff.1 hg
 rw [List.take_add_one, List.getElem?_eq_getElem hlt, List.any_append, h]
 simpa using hf
set_option maxRecDepth 100000 in
theorem clos_at (g : Nat) (t a b : Int) (f : F3) (w : World) (h : w.heap[g]? = some (.cells #[.int .i64 t, .int .i64 a, .int .i64 b] 71 (0, 0))) :
  Calls Tryd.prog 53 #[.agg #[.int .i64 f.f0, .int .i64 f.f1, .int .i64 f.f2], .pointer (some ⟨g, 0, none⟩)] w fun e w' => e = .returned (.bool (f.f0 == t)) ∧ Below w.heap.size w w' := by
 have HX := Aside0.mk h
 have hu44 := Tryd.underlying71
 clear h
 go_enter Tryd.func53, Tryd.ntmps53
 go_upto_region 1 with (fail)
 generalize hW : w.alloc (.cells #[.int .i64 f.f0, .int .i64 f.f1, .int .i64 f.f2] 71) = W1
 have hb : Below w.heap.size w W1 := by rw [← hW]; exact below_alloc (Below.refl _ _) _
 have hx : W1.heap[w.heap.size]? = some (.cells #[.int .i64 f.f0, .int .i64 f.f1, .int .i64 f.f2] 71 (0, 0)) := by rw [← hW]; exact new_blk _ _ _
 have x0 := Joins.cell_of_block hx 0
 have y0 := Joins.cell_of_block (keep_below HX.out hb) 0
 have HB := Aside0.mk hb
 clear hW hx hb
 go_wp2
 go_ret
 exact ⟨rfl, HB.out⟩
set_option maxRecDepth 100000 in
set_option maxHeartbeats 4000000 in
theorem indexFunc_any (g : Nat) (t a b : Int) (A : Option Addr) (c : Nat) (l : List F3) (w : World) (hg : w.heap[g]? = some (.cells #[.int .i64 t, .int .i64 a, .int .i64 b] 71 (0, 0))) (hr : Kd.C kF w A l.length l) (hn : l.length ≤ 4611686018427387904) :
  Calls Tryd.prog 66 #[.slice A l.length c, .func (.func 53) #[] #[.pointer (some ⟨g, 0, none⟩)]] w fun e w' => ∃ r : Int, e = .returned (.int .i64 r) ∧ decide (0 ≤ r) = l.any (fun f => f.f0 == t) ∧ Below w.heap.size w w' := by
 have HG := Aside0.mk hg
 have HR := Aside0.mk hr
 have HF := Aside0.mk (fun (W : World) (f : F3) (hb : Below w.heap.size w W) => clos_at g t a b f W (keep_below HG.out hb))
 clear hg hr
 go_enter Tryd.func66, Tryd.ntmps66
 go_upto_region 2 with (fail)
 go_loopw [8] (fun v8 wr => ∃ i : Nat, i ≤ l.length ∧ v8 = .int .i64 i ∧ Aside0 ((l.take i).any (fun f => f.f0 == t) = false) ∧ Aside0 (Below w.heap.size w wr)) (fun i _ => l.length - (intOf i).toNat)
 case atStart => exact ⟨0, Nat.zero_le _, rfl, ⟨rfl⟩, ⟨Below.refl _ _⟩⟩
 case round =>
  obtain ⟨i, hi, rfl, HM, HBr⟩ := hrel
  by_cases hlt : i < l.length
  ·have d0 : decide ((i : Int) < (l.length : Int)) = true := decide_eq_true (by omega)
   have hq : (i < l.length) = True := eq_true hlt
   have hqi : ((i : Int) < (l.length : Int)) = True := eq_true (by omega)
   obtain ⟨ad, rfl, y0, y1, y2⟩ := at_F (Kd.C_below HR.out HBr.out) (i : Int) (by omega) (by omega)
   rw [Int.toNat_natCast] at y0 y1 y2
   have hget : l[i]? = some (rd_F l (i : Int)) := by
    unfold rd_F
    rw [Int.toNat_natCast, List.getD_eq_getElem?_getD, List.getElem?_eq_getElem hlt]
    rfl
   generalize rd_F l (i : Int) = f at y0 y1 y2 hget
   have HGT := Aside0.mk hget
   have hu44 := Tryd.underlying71
   clear hget
   cases he : f.f0 == t with
   | true =>
    have HE := Aside0.mk (any_hit HGT.out he)
    have HF2 := Aside0.mk (fun W hb => show Calls Tryd.prog 53 #[.agg #[.int .i64 f.f0, .int .i64 f.f1, .int .i64 f.f2], .pointer (some ⟨g, 0, none⟩)] W fun e w' => e = .returned (.bool true) ∧ Below W.heap.size W w' by rw [← he]; exact HF.out W f hb)
    clear he
    go_wp2_with (first
     | (go_at_call 53; (with_reducible refine (HF2.out _ HBr.out).mono ?_); rintro e w3 ⟨rfl, hb3⟩; have HB3 := Aside0.mk hb3; clear hb3))
    go_ret
    exact ⟨_, rfl, by rw [HE.out]; exact decide_eq_true (by omega), below_step HBr.out HB3.out⟩
   | false =>
    have HM2 := Aside0.mk (any_next HM.out HGT.out he)
    have HF2 := Aside0.mk (fun W hb => show Calls Tryd.prog 53 #[.agg #[.int .i64 f.f0, .int .i64 f.f1, .int .i64 f.f2], .pointer (some ⟨g, 0, none⟩)] W fun e w' => e = .returned (.bool false) ∧ Below W.heap.size W w' by rw [← he]; exact HF.out W f hb)
    clear he
    go_wp2_with (first
     | (go_at_call 53; (with_reducible refine (HF2.out _ HBr.out).mono ?_); rintro e w3 ⟨rfl, hb3⟩; have HB3 := Aside0.mk (below_step HBr.out hb3); clear hb3))
    go_roundw
    case rel => exact ⟨i + 1, by omega, by push_cast; rfl, HM2, HB3⟩
    case measure => simp [intOf]; omega
  ·obtain rfl : i = l.length := by omega
   have d0 : decide ((l.length : Int) < (l.length : Int)) = false := decide_eq_false (by omega)
   go_wp2
   go_ret
   have hm := HM.out
   rw [List.take_length] at hm
   exact ⟨_, rfl, by rw [hm]; rfl, HBr.out⟩
set_option maxRecDepth 100000 in
theorem containsFunc_any (g : Nat) (t a b : Int) (A : Option Addr) (c : Nat) (l : List F3) (w : World) (hg : w.heap[g]? = some (.cells #[.int .i64 t, .int .i64 a, .int .i64 b] 71 (0, 0))) (hr : Kd.C kF w A l.length l) (hn : l.length ≤ 4611686018427387904) :
  Calls Tryd.prog 52 #[.slice A l.length c, .func (.func 53) #[] #[.pointer (some ⟨g, 0, none⟩)]] w fun e w' => e = .returned (.bool (l.any (fun f => f.f0 == t))) ∧ Below w.heap.size w w' := by
 have HI := Aside0.mk (indexFunc_any g t a b A c l w hg hr hn)
 clear hg hr hn
 go_enter Tryd.func52, Tryd.ntmps52
 go_wp2_with (first
  | (go_at_call 66; (with_reducible refine HI.out.mono ?_); rintro e w1 ⟨r, rfl, hr, hb1⟩; have HR1 := Aside0.mk hr; have HB1 := Aside0.mk hb1; clear hr hb1))
 go_ret
 rw [← HR1.out]
 exact ⟨rfl, HB1.out⟩
def tornF (f : F3) : Bool := (f.f1 == 1 && decide (0 ≤ f.f2) && decide (f.f2 ≤ 2)) || (f.f1 == 2 && f.f2 == 0)
def planGo : List F3 → List F3 → Bool
 | _, [] => true
 | seen, f :: r => !decide (f.f0 < 1) && tornF f && !(seen.any (fun o => o.f0 == f.f0)) && planGo (seen ++ [f]) r
def planOK (l : List F3) : Bool := !decide (256 < l.length) && planGo [] l
theorem planGo_at {l : List F3} {i : Nat} {f : F3} (h : l[i]? = some f) : planGo (l.take i) (l.drop i) = (!decide (f.f0 < 1) && tornF f && !((l.take i).any (fun o => o.f0 == f.f0)) && planGo (l.take (i + 1)) (l.drop (i + 1))) := by
 obtain ⟨hlt, rfl⟩ := List.getElem?_eq_some_iff.1 h
 rw [← List.getElem_cons_drop (h := hlt), planGo, List.take_add_one, List.getElem?_eq_getElem hlt]
 rfl
set_option maxRecDepth 100000 in
theorem rightPlan_long (A : Option Addr) (n c : Nat) (hn : 256 < n) (W : World) : Calls Tryd.prog 29 #[.slice A n c] W fun e w' => e = .returned (.bool false) ∧ Below W.heap.size W w' := by
 have d0 : decide (256 < n) = true := decide_eq_true hn
 have d1 : decide ((256 : Int) < (n : Int)) = true := decide_eq_true (by omega)
 go_enter Tryd.func29, Tryd.ntmps29
 go_wp2
 go_ret
 exact ⟨rfl, Below.refl _ _⟩
set_option maxRecDepth 100000 in
set_option maxHeartbeats 16000000 in
theorem rightPlan_go (A : Option Addr) (c : Nat) (l : List F3) (W : World) (hr : Kd.C kF W A l.length l) (hc : l.length ≤ c) (hn : ¬ 256 < l.length) : Calls Tryd.prog 29 #[.slice A l.length c] W fun e w' => e = .returned (.bool (planGo [] l)) ∧ Below W.heap.size W w' := by
 have d0 : decide (256 < l.length) = false := decide_eq_false hn
 have d1 : decide ((256 : Int) < (l.length : Int)) = false := decide_eq_false (by omega)
 have HR := Aside0.mk hr
 have HC := Aside0.mk hc
 have hu44 := Tryd.underlying71
 clear hr hc
 go_enter Tryd.func29, Tryd.ntmps29
 go_upto_region 4 with (fail)
 go_loopw [11] (fun v11 wr => ∃ i : Nat, i ≤ l.length ∧ v11 = .int .i64 i ∧ Aside0 (planGo [] l = planGo (l.take i) (l.drop i)) ∧ Aside0 (Below W.heap.size W wr)) (fun i _ => l.length - (intOf i).toNat)
 case atStart => exact ⟨0, Nat.zero_le _, rfl, ⟨rfl⟩, ⟨Below.refl _ _⟩⟩
 case round =>
  obtain ⟨i, hi, rfl, HM, HBr⟩ := hrel
  by_cases hlt : i < l.length
  ·have dq : decide ((i : Int) < (l.length : Int)) = true := decide_eq_true (by omega)
   have hq : (i < l.length) = True := eq_true hlt
   have hqi : ((i : Int) < (l.length : Int)) = True := eq_true (by omega)
   obtain ⟨ad, rfl, y0, y1, y2⟩ := at_F (Kd.C_below HR.out HBr.out) (i : Int) (by omega) (by omega)
   rw [Int.toNat_natCast] at y0 y1 y2
   have hget : l[i]? = some (rd_F l (i : Int)) := by
    unfold rd_F
    rw [Int.toNat_natCast, List.getD_eq_getElem?_getD, List.getElem?_eq_getElem hlt]
    rfl
   generalize rd_F l (i : Int) = f at y0 y1 y2 hget
   have HPG := Aside0.mk (HM.out.trans (planGo_at hget))
   clear hget
   go_upto_region 6 with (fail)
   generalize hW : wr.alloc (.cells #[.int .i64 f.f0, .int .i64 f.f1, .int .i64 f.f2] 71) = W1
   have hb1 : Below wr.heap.size wr W1 := by rw [← hW]; exact below_alloc (Below.refl _ _) _
   have hx1 : W1.heap[wr.heap.size]? = some (.cells #[.int .i64 f.f0, .int .i64 f.f1, .int .i64 f.f2] 71 (0, 0)) := by rw [← hW]; exact new_blk _ _ _
   have z0 := Joins.cell_of_block hx1 0
   have z1 := Joins.cell_of_block hx1 1
   have z2 := Joins.cell_of_block hx1 2
   have HB1 := Aside0.mk (below_step HBr.out hb1)
   have hlc : i ≤ c := by have := HC.out; omega
   have dlc : decide (c < i) = false := decide_eq_false (by omega)
   have HCF := Aside0.mk (show Calls Tryd.prog 52 #[.slice (some ad) i c, .func (.func 53) #[] #[.pointer (some ⟨wr.heap.size, 0, none⟩)]] W1 _ by
    have hcf := containsFunc_any wr.heap.size f.f0 f.f1 f.f2 (some ad) c (l.take i) W1 hx1 (Kd.C_take (Kd.C_below HR.out HB1.out) (Nat.le_of_lt hlt)) (by rw [List.length_take]; omega)
    rw [show (l.take i).length = i by rw [List.length_take]; omega] at hcf
    exact hcf)
   clear hW hb1 hx1 y0 y1 y2
   cases q1 : f.f1 == 1 with
   | true =>
    have q4 : (f.f1 == 2) = false := by
     simp only [beq_eq_false_iff_ne]
     have := beq_iff_eq.1 q1
     omega
    cases q2 : decide (0 ≤ f.f2) with
    | true =>
     cases q3 : decide (f.f2 ≤ 2) with
     | true =>
      have HT := Aside0.mk (show tornF f = true by unfold tornF; rw [q1, q2, q3]; rfl)
      cases h0 : decide (f.f0 < 1) with
      | true =>
       go_wp2
       go_ret
       rw [HPG.out, h0]
       exact ⟨rfl, HB1.out⟩
      | false =>
       cases ha : (l.take i).any (fun o => o.f0 == f.f0) with
       | true =>
        have HA := Aside0.mk ha
        have HCG := HCF.out
        rw [ha] at HCG
        have HCG2 := Aside0.mk HCG
        clear ha HCG
        go_wp2_with (first
         | (go_at_call 52; (with_reducible refine HCG2.out.mono ?_); rintro e w3 ⟨rfl, hb3⟩; have HB3 := Aside0.mk (below_step HB1.out hb3); clear hb3))
        go_ret
        rw [HPG.out, h0, HT.out, HA.out]
        exact ⟨rfl, HB3.out⟩
       | false =>
        have HA := Aside0.mk ha
        have HCG := HCF.out
        rw [ha] at HCG
        have HCG2 := Aside0.mk HCG
        have HM2 := Aside0.mk (show planGo [] l = planGo (l.take (i + 1)) (l.drop (i + 1)) by rw [HPG.out, h0, HT.out, ha]; rfl)
        clear ha HCG
        go_wp2_with (first
         | (go_at_call 52; (with_reducible refine HCG2.out.mono ?_); rintro e w3 ⟨rfl, hb3⟩; have HB3 := Aside0.mk (below_step HB1.out hb3); clear hb3))
        go_roundw
        case rel => exact ⟨i + 1, by omega, by push_cast; rfl, HM2, HB3⟩
        case measure => simp [intOf]; omega
     | false =>
      have HT := Aside0.mk (show tornF f = false by unfold tornF; rw [q1, q2, q3, q4]; rfl)
      cases h0 : decide (f.f0 < 1) with
      | true =>
       go_wp2
       go_ret
       rw [HPG.out, h0]
       exact ⟨rfl, HB1.out⟩
      | false =>
       go_wp2
       go_ret
       rw [HPG.out, h0, HT.out]
       exact ⟨rfl, HB1.out⟩
    | false =>
     have HT := Aside0.mk (show tornF f = false by unfold tornF; rw [q1, q2, q4]; rfl)
     cases h0 : decide (f.f0 < 1) with
     | true =>
      go_wp2
      go_ret
      rw [HPG.out, h0]
      exact ⟨rfl, HB1.out⟩
     | false =>
      go_wp2
      go_ret
      rw [HPG.out, h0, HT.out]
      exact ⟨rfl, HB1.out⟩
   | false =>
    cases q4 : f.f1 == 2 with
    | true =>
     cases q5 : f.f2 == 0 with
     | true =>
      have HT := Aside0.mk (show tornF f = true by unfold tornF; rw [q1, q4, q5]; rfl)
      cases h0 : decide (f.f0 < 1) with
      | true =>
       go_wp2
       go_ret
       rw [HPG.out, h0]
       exact ⟨rfl, HB1.out⟩
      | false =>
       cases ha : (l.take i).any (fun o => o.f0 == f.f0) with
       | true =>
        have HA := Aside0.mk ha
        have HCG := HCF.out
        rw [ha] at HCG
        have HCG2 := Aside0.mk HCG
        clear ha HCG
        go_wp2_with (first
         | (go_at_call 52; (with_reducible refine HCG2.out.mono ?_); rintro e w3 ⟨rfl, hb3⟩; have HB3 := Aside0.mk (below_step HB1.out hb3); clear hb3))
        go_ret
        rw [HPG.out, h0, HT.out, HA.out]
        exact ⟨rfl, HB3.out⟩
       | false =>
        have HA := Aside0.mk ha
        have HCG := HCF.out
        rw [ha] at HCG
        have HCG2 := Aside0.mk HCG
        have HM2 := Aside0.mk (show planGo [] l = planGo (l.take (i + 1)) (l.drop (i + 1)) by rw [HPG.out, h0, HT.out, ha]; rfl)
        clear ha HCG
        go_wp2_with (first
         | (go_at_call 52; (with_reducible refine HCG2.out.mono ?_); rintro e w3 ⟨rfl, hb3⟩; have HB3 := Aside0.mk (below_step HB1.out hb3); clear hb3))
        go_roundw
        case rel => exact ⟨i + 1, by omega, by push_cast; rfl, HM2, HB3⟩
        case measure => simp [intOf]; omega
     | false =>
      have HT := Aside0.mk (show tornF f = false by unfold tornF; rw [q1, q4, q5]; rfl)
      cases h0 : decide (f.f0 < 1) with
      | true =>
       go_wp2
       go_ret
       rw [HPG.out, h0]
       exact ⟨rfl, HB1.out⟩
      | false =>
       go_wp2
       go_ret
       rw [HPG.out, h0, HT.out]
       exact ⟨rfl, HB1.out⟩
    | false =>
     have HT := Aside0.mk (show tornF f = false by unfold tornF; rw [q1, q4]; rfl)
     cases h0 : decide (f.f0 < 1) with
     | true =>
      go_wp2
      go_ret
      rw [HPG.out, h0]
      exact ⟨rfl, HB1.out⟩
     | false =>
      go_wp2
      go_ret
      rw [HPG.out, h0, HT.out]
      exact ⟨rfl, HB1.out⟩
  ·obtain rfl : i = l.length := by omega
   have dq : decide ((l.length : Int) < (l.length : Int)) = false := decide_eq_false (by omega)
   go_wp2
   go_ret
   have hm := HM.out
   rw [List.drop_length] at hm
   rw [hm]
   exact ⟨rfl, HBr.out⟩
theorem rightPlan_is (A : Option Addr) (c : Nat) (l : List F3) (W : World) (hr : Kd.C kF W A l.length l) (hc : l.length ≤ c) : Calls Tryd.prog 29 #[.slice A l.length c] W fun e w' => e = .returned (.bool (planOK l)) ∧ Below W.heap.size W w' := by
 by_cases h : 256 < l.length
 ·rw [show planOK l = false by unfold planOK; rw [decide_eq_true h]; rfl]
  exact rightPlan_long A l.length c h W
 ·rw [show planOK l = planGo [] l by unfold planOK; rw [decide_eq_false h]; rfl]
  exact rightPlan_go A c l W hr hc h
end Go.Proofs.YtdlimghdimkadaaDoor.PAll
