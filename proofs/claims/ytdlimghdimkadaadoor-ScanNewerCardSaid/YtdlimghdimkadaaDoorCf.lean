import Derived.Test.YtdlimghdimkadaaDoorCd
namespace Go.Proofs.YtdlimghdimkadaaDoor.PAll
open Go.RowKit Go.Proofs.YtdlimghdimkadaaDoorW.PrintWords Go.Proofs.YtdlimghdimkadaaDoorW.PrintLast Go.Proofs.YtdlimghdimkadaaDoorW.PrintMore
set_option linter.unusedSimpArgs false
set_option linter.unusedVariables false
attribute [local go_sem] max2_int min2_int max_two min_two max_three min_three max_four min_four
variable {w0 W : World} {gc gb : Nat} {gp : Nat → Nat} {m : Ch} {D : Nat → Nat → List Int}
/-- A page's bytes while they are filled up to i. -/
def pre (Z : Nat) (xs : List Int) (i : Nat) : List Int := (xs ++ List.replicate (i - xs.length) 255) ++ List.replicate (Z - i) 0
theorem pre_len (Z : Nat) (xs : List Int) (i : Nat) (h : xs.length ≤ i) (h2 : i ≤ Z) : (pre Z xs i).length = Z := by
  unfold pre; simp; omega
theorem pre_set (Z : Nat) (xs : List Int) (i : Nat) (h : xs.length ≤ i) (h2 : i < Z) : (pre Z xs i).set i 255 = pre Z xs (i + 1) := by
  unfold pre
  have e1 : (xs ++ List.replicate (i - xs.length) (255 : Int)).length = i := by simp; omega
  rw [List.set_append_right _ _ (by rw [e1]; exact Nat.le_refl _), e1, Nat.sub_self]
  rw [show Z - i = (Z - (i + 1)) + 1 by omega, List.replicate_succ, List.set_cons_zero]
  rw [show i + 1 - xs.length = (i - xs.length) + 1 by omega, List.replicate_succ', List.append_assoc, List.append_assoc, List.append_assoc]
  rfl
theorem pre_start (Z : Nat) (xs : List Int) (h : xs.length ≤ Z) : xs.take (min xs.length (List.replicate Z (0 : Int)).length) ++ (List.replicate Z (0 : Int)).drop (min xs.length (List.replicate Z (0 : Int)).length) = pre Z xs xs.length := by
  unfold pre
  rw [List.length_replicate, Nat.min_eq_left h, List.take_length, List.drop_replicate, Nat.sub_self, List.replicate_zero, List.append_nil]
theorem pre_nil (Z : Nat) : List.replicate Z (0 : Int) = pre Z [] 0 := rfl
theorem pre_end (Z : Nat) (xs : List Int) : pre Z xs Z = xs ++ List.replicate (Z - xs.length) 255 := by
  unfold pre; simp
set_option maxRecDepth 100000 in
set_option maxHeartbeats 8000000 in
theorem read_blank (h : St w0 W gc gb gp m D) (hoff : m.off = false) (n p : Nat) (hn : n < m.g.B) (hp : p < m.g.P) (hs1 : ((m.bk n).pg p).st ≠ 2) (hs2 : ((m.bk n).pg p).st ≠ 1) :
    Calls Tryd.prog 26 #[cp gc, .int .i64 n, .int .i64 p] W fun e w' => ∃ v : Value, e = .returned (.tuple #[v, .int .i64 0]) ∧ Kd.R kB 5 w' W.heap.size (fun _ => True) v (List.replicate m.g.Z 255) ∧ Below W.heap.size W w' := by
  have HRY := Aside0.mk (ready_yes h hoff n hn)
  have H := Aside0.mk h
  have hzz := h.gok.2.2
  have d1 : decide ((p : Int) < 0) = false := decide_eq_false (by omega)
  have d2 : decide ((m.g.P : Int) ≤ (p : Int)) = false := decide_eq_false (by omega)
  have d3 : decide (m.g.P ≤ p) = false := decide_eq_false (by omega)
  have hqp : ((p : Int) < (m.g.P : Int)) = True := eq_true (by omega)
  have hqp2 : (p < m.g.P) = True := eq_true hp
  have hu65 := Tryd.underlying88
  have e1 : (((m.bk n).pg p).st == (2 : Int)) = false := by simp only [beq_eq_false_iff_ne]; exact hs1
  have e2 : (((m.bk n).pg p).st == (1 : Int)) = false := by simp only [beq_eq_false_iff_ne]; exact hs2
  generalize hst : ((m.bk n).pg p).st = st at e1 e2
  have HS := Aside0.mk hst
  clear hst hs1 hs2
  clear h hoff
  obtain ⟨Z, hZ⟩ : ∃ Z, m.g.Z = Z := ⟨_, rfl⟩
  rw [hZ] at hzz ⊢
  go_enter Tryd.func26, Tryd.ntmps26
  go_upto_region 6 with (first
    | (go_at_call 33; (with_reducible refine HRY.out.mono ?_); rintro e w1 ⟨rfl, hb1⟩; have h1 := H.out.grow hb1; have H1 := Aside0.mk h1; have HB1 := Aside0.mk hb1; obtain ⟨z0, z1, z2, z3⟩ := h1.cellB n hn; have y2 : w1.cell? ⟨gc, 2, none⟩ = some (.int .i64 Z) := (by rw [← hZ]; exact h1.cellC 2); clear hb1 h1))
  clear z0 z1 z3
  go_upto_region 7 with (first
    | ((with_reducible refine gate_dst (N := 39) rfl ?_); refine Kd.R_make kB (w0 := w1) w1.heap.size 5 ?hg (N := 39) ?hd 39 _ _ rfl (Z : Int) ?hx ?hy Tryd.underlying39 (.int .u8 0) 1 info5' rfl Nat.zero_lt_one Nat.zero_lt_one 0 (ok := fun _ => True) (okp := fun _ => True) rfl (fun _ hk => hk) trivial ?hn0 ?hn1 (Below.refl _ _) (Nat.le_refl _) ?_; (case hd => rfl); (case hg => rfl); (case hx => go_simp); (case hy => go_simp); (case hn0 => omega); (case hn1 => omega); intro v2 w2 ho hb _ _; rw [Int.toNat_natCast] at ho; have HO := Aside0.mk ho; have HB := Aside0.mk hb; clear ho hb))
  clear z2 y2
  obtain ⟨g2, c2, ev2, hg2, hl2, _⟩ := Kd.R_form HO.out (by rw [List.length_replicate]; omega)
  simp only [List.length_replicate] at ev2
  subst ev2
  have h2 := H1.out.grow HB.out
  obtain ⟨_, _, z2, _⟩ := h2.cellB n hn
  obtain ⟨q0, q1⟩ := h2.cellP n hn p hp
  rw [HS.out] at q0
  have HD := Aside0.mk (h2.d n p hn hp)
  obtain ⟨Ad, cd, ed⟩ := Kd.R_slice (h2.d n p hn hp)
  rw [ed] at q1 HD
  clear ed
  have H2 := Aside0.mk h2
  have HG2 := Aside0.mk hg2
  have HL2 := Aside0.mk hl2
  clear h2 hg2 hl2
  go_upto_region 8 with (fail)
  generalize hW : (w2.alloc (.cells #[.int .i64 st, .slice Ad (D n p).length cd] 88)) = W3
  have hb3 : Below w2.heap.size w2 W3 := by rw [← hW]; exact below_alloc (Below.refl _ _) _
  have hx : W3.heap[w2.heap.size]? = some (.cells #[.int .i64 st, .slice Ad (D n p).length cd] 88 (0, 0)) := by rw [← hW]; exact new_blk _ _ _
  have x0 := Joins.cell_of_block hx 0
  have x1 := Joins.cell_of_block hx 1
  have HO3 := Aside0.mk (Kd.R_below HO.out hb3)
  have HB3 := Aside0.mk (below_step HB1.out (below_step HB.out hb3))
  have HB23 := Aside0.mk hb3
  have HB13 := Aside0.mk (below_step HB.out hb3)
  have H3 := Aside0.mk (H2.out.grow hb3)
  clear hW hb3 hx z2 q0 q1
  go_wp2
  go_loopw [51] (fun v51 wr => ∃ i : Nat, 0 ≤ i ∧ i ≤ Z ∧ v51 = .int .i64 i ∧ Aside0 (Kd.R kB 5 wr w1.heap.size (fun _ => True) (.slice (some ⟨g2, 0, none⟩) Z c2) (pre Z [] i)) ∧ Aside0 (Below W.heap.size W wr)) (fun i _ => Z - (intOf i).toNat)
  case atStart => exact ⟨0, Nat.le_refl _, by omega, rfl, HO3, HB3⟩
  case round =>
    obtain ⟨i, hli, hi, rfl, HR, HBr⟩ := hrel
    by_cases hlt : i < Z
    · have d0 : decide ((i : Int) < (Z : Int)) = true := decide_eq_true (by omega)
      have hq : (i < Z) = True := eq_true hlt
      have hqi : ((i : Int) < (Z : Int)) = True := eq_true (by omega)
      obtain ⟨k1, k2⟩ := Kd.R_celln 0 HR.out (i : Int) (by omega) (by omega)
      simp only [Int.toNat_natCast] at k1 k2
      have h9 := Kd.R_putn HR.out (i : Int) 255
      simp only [Int.toNat_natCast] at h9
      rw [pre_set Z [] i (Nat.zero_le _) hlt] at h9
      have hb9 : Below W.heap.size W (wr.setCell ⟨g2, i, none⟩ (.int .u8 255)) := below_set HBr.out (Nat.le_trans (below_size HB1.out) HG2.out)
      have HR9 := Aside0.mk h9
      have HB9 := Aside0.mk hb9
      clear h9 hb9
      go_wp2
      go_roundw
      case rel => exact ⟨i + 1, by omega, by omega, by push_cast; rfl, HR9, HB9⟩
      case measure => simp [intOf]; omega
    · obtain rfl : i = Z := by omega
      have d0 : decide ((i : Int) < (i : Int)) = false := decide_eq_false (by omega)
      go_wp2
      go_ret2
      have hfin := Kd.R_lower HR.out (below_size HB1.out)
      rw [pre_end] at hfin
      exact ⟨_, rfl, hfin, HBr.out⟩
set_option maxRecDepth 100000 in
set_option maxHeartbeats 8000000 in
theorem read_data (h : St w0 W gc gb gp m D) (hoff : m.off = false) (n p : Nat) (hn : n < m.g.B) (hp : p < m.g.P) (hst : ((m.bk n).pg p).st = 1) (hl : (D n p).length ≤ m.g.Z) :
    Calls Tryd.prog 26 #[cp gc, .int .i64 n, .int .i64 p] W fun e w' => ∃ v : Value, e = .returned (.tuple #[v, .int .i64 0]) ∧ Kd.R kB 5 w' W.heap.size (fun _ => True) v (D n p ++ List.replicate (m.g.Z - (D n p).length) 255) ∧ Below W.heap.size W w' := by
  have HRY := Aside0.mk (ready_yes h hoff n hn)
  have H := Aside0.mk h
  have hzz := h.gok.2.2
  have d1 : decide ((p : Int) < 0) = false := decide_eq_false (by omega)
  have d2 : decide ((m.g.P : Int) ≤ (p : Int)) = false := decide_eq_false (by omega)
  have d3 : decide (m.g.P ≤ p) = false := decide_eq_false (by omega)
  have hqp : ((p : Int) < (m.g.P : Int)) = True := eq_true (by omega)
  have hqp2 : (p < m.g.P) = True := eq_true hp
  have hu65 := Tryd.underlying88
  have HS := Aside0.mk hst
  clear hst
  clear h hoff
  obtain ⟨Z, hZ⟩ : ∃ Z, m.g.Z = Z := ⟨_, rfl⟩
  rw [hZ] at hzz hl ⊢
  go_enter Tryd.func26, Tryd.ntmps26
  go_upto_region 6 with (first
    | (go_at_call 33; (with_reducible refine HRY.out.mono ?_); rintro e w1 ⟨rfl, hb1⟩; have h1 := H.out.grow hb1; have H1 := Aside0.mk h1; have HB1 := Aside0.mk hb1; obtain ⟨z0, z1, z2, z3⟩ := h1.cellB n hn; have y2 : w1.cell? ⟨gc, 2, none⟩ = some (.int .i64 Z) := (by rw [← hZ]; exact h1.cellC 2); clear hb1 h1))
  clear z0 z1 z3
  go_upto_region 7 with (first
    | ((with_reducible refine gate_dst (N := 39) rfl ?_); refine Kd.R_make kB (w0 := w1) w1.heap.size 5 ?hg (N := 39) ?hd 39 _ _ rfl (Z : Int) ?hx ?hy Tryd.underlying39 (.int .u8 0) 1 info5' rfl Nat.zero_lt_one Nat.zero_lt_one 0 (ok := fun _ => True) (okp := fun _ => True) rfl (fun _ hk => hk) trivial ?hn0 ?hn1 (Below.refl _ _) (Nat.le_refl _) ?_; (case hd => rfl); (case hg => rfl); (case hx => go_simp); (case hy => go_simp); (case hn0 => omega); (case hn1 => omega); intro v2 w2 ho hb _ _; rw [Int.toNat_natCast] at ho; have HO := Aside0.mk ho; have HB := Aside0.mk hb; clear ho hb))
  clear z2 y2
  obtain ⟨g2, c2, ev2, hg2, hl2, _⟩ := Kd.R_form HO.out (by rw [List.length_replicate]; omega)
  simp only [List.length_replicate] at ev2
  subst ev2
  have h2 := H1.out.grow HB.out
  obtain ⟨_, _, z2, _⟩ := h2.cellB n hn
  obtain ⟨q0, q1⟩ := h2.cellP n hn p hp
  rw [HS.out] at q0
  have HD := Aside0.mk (h2.d n p hn hp)
  obtain ⟨Ad, cd, ed⟩ := Kd.R_slice (h2.d n p hn hp)
  rw [ed] at q1 HD
  clear ed
  have H2 := Aside0.mk h2
  have HG2 := Aside0.mk hg2
  have HL2 := Aside0.mk hl2
  clear h2 hg2 hl2
  go_upto_region 8 with (fail)
  generalize hW : (w2.alloc (.cells #[.int .i64 1, .slice Ad (D n p).length cd] 88)) = W3
  have hb3 : Below w2.heap.size w2 W3 := by rw [← hW]; exact below_alloc (Below.refl _ _) _
  have hx : W3.heap[w2.heap.size]? = some (.cells #[.int .i64 1, .slice Ad (D n p).length cd] 88 (0, 0)) := by rw [← hW]; exact new_blk _ _ _
  have x0 := Joins.cell_of_block hx 0
  have x1 := Joins.cell_of_block hx 1
  have HO3 := Aside0.mk (Kd.R_below HO.out hb3)
  have HB3 := Aside0.mk (below_step HB1.out (below_step HB.out hb3))
  have HB23 := Aside0.mk hb3
  have HB13 := Aside0.mk (below_step HB.out hb3)
  have H3 := Aside0.mk (H2.out.grow hb3)
  clear hW hb3 hx z2 q0 q1
  have HLL := Aside0.mk hl
  go_wp2_with (first
    | ((with_reducible refine gate_builtin (b := .copy) (xs := #[.tmp 62, .tmp 64]) rfl ?_); refine Kd.R_copy (enc := Value.int .u8) (h1 := fun _ => rfl) 0 (w0 := w1) w1.heap.size rfl (.tmp 62) (.tmp 64) 39 39 5 rfl Tryd.underlying39 (by kernel_rfl) (.slice (some ⟨g2, 0, none⟩) Z c2) (List.replicate Z 0) (D n p) Ad (D n p).length cd (fun _ => True) rfl rfl HO3.out ?aR ?aB ?aS ?_; (case aR => exact (Kd.R_reads' (Kd.R_below HD.out HB23.out)).2.2); (case aB => exact HB13.out); (case aS => exact below_size HB13.out); intro w4 ho hb hg; rw [pre_start Z _ HLL.out] at ho; have HO4 := Aside0.mk ho; have x1' := hg.cell x1 ?xr; (case xr => simp [Value.ownBlock]; exact Ne.symm (Nat.ne_of_lt HL2.out)); have HB4 := Aside0.mk (below_step HB1.out hb); clear ho hb hg))
  go_loopw [12] (fun v51 wr => ∃ i : Nat, (D n p).length ≤ i ∧ i ≤ Z ∧ v51 = .int .i64 i ∧ Aside0 (Kd.R kB 5 wr w1.heap.size (fun _ => True) (.slice (some ⟨g2, 0, none⟩) Z c2) (pre Z (D n p) i)) ∧ Aside0 (Below W.heap.size W wr)) (fun i _ => Z - (intOf i).toNat)
  case atStart => exact ⟨(D n p).length, Nat.le_refl _, HLL.out, rfl, HO4, HB4⟩
  case round =>
    obtain ⟨i, hli, hi, rfl, HR, HBr⟩ := hrel
    by_cases hlt : i < Z
    · have d0 : decide ((i : Int) < (Z : Int)) = true := decide_eq_true (by omega)
      have hq : (i < Z) = True := eq_true hlt
      have hqi : ((i : Int) < (Z : Int)) = True := eq_true (by omega)
      obtain ⟨k1, k2⟩ := Kd.R_celln 0 HR.out (i : Int) (by omega) (by omega)
      simp only [Int.toNat_natCast] at k1 k2
      have h9 := Kd.R_putn HR.out (i : Int) 255
      simp only [Int.toNat_natCast] at h9
      rw [pre_set Z (D n p) i hli hlt] at h9
      have hb9 : Below W.heap.size W (wr.setCell ⟨g2, i, none⟩ (.int .u8 255)) := below_set HBr.out (Nat.le_trans (below_size HB1.out) HG2.out)
      have HR9 := Aside0.mk h9
      have HB9 := Aside0.mk hb9
      clear h9 hb9
      go_wp2
      go_roundw
      case rel => exact ⟨i + 1, by omega, by omega, by push_cast; rfl, HR9, HB9⟩
      case measure => simp [intOf]; omega
    · obtain rfl : i = Z := by omega
      have d0 : decide ((i : Int) < (i : Int)) = false := decide_eq_false (by omega)
      go_wp2
      go_ret2
      have hfin := Kd.R_lower HR.out (below_size HB1.out)
      rw [pre_end] at hfin
      exact ⟨_, rfl, hfin, HBr.out⟩
set_option maxRecDepth 100000 in
set_option maxHeartbeats 8000000 in
theorem read_torn (h : St w0 W gc gb gp m D) (hoff : m.off = false) (n p : Nat) (hn : n < m.g.B) (hp : p < m.g.P) (hst : ((m.bk n).pg p).st = 2) :
    Calls Tryd.prog 26 #[cp gc, .int .i64 n, .int .i64 p] W fun e w' => e = .returned (.tuple #[.slice none 0 0, .int .i64 5]) ∧ Below W.heap.size W w' := by
  have HRY := Aside0.mk (ready_yes h hoff n hn)
  have H := Aside0.mk h
  have hzz := h.gok.2.2
  have d1 : decide ((p : Int) < 0) = false := decide_eq_false (by omega)
  have d2 : decide ((m.g.P : Int) ≤ (p : Int)) = false := decide_eq_false (by omega)
  have d3 : decide (m.g.P ≤ p) = false := decide_eq_false (by omega)
  have hqp : ((p : Int) < (m.g.P : Int)) = True := eq_true (by omega)
  have hqp2 : (p < m.g.P) = True := eq_true hp
  have hu65 := Tryd.underlying88
  have HS := Aside0.mk hst
  clear hst
  clear h hoff
  obtain ⟨Z, hZ⟩ : ∃ Z, m.g.Z = Z := ⟨_, rfl⟩
  rw [hZ] at hzz 
  go_enter Tryd.func26, Tryd.ntmps26
  go_upto_region 6 with (first
    | (go_at_call 33; (with_reducible refine HRY.out.mono ?_); rintro e w1 ⟨rfl, hb1⟩; have h1 := H.out.grow hb1; have H1 := Aside0.mk h1; have HB1 := Aside0.mk hb1; obtain ⟨z0, z1, z2, z3⟩ := h1.cellB n hn; have y2 : w1.cell? ⟨gc, 2, none⟩ = some (.int .i64 Z) := (by rw [← hZ]; exact h1.cellC 2); clear hb1 h1))
  clear z0 z1 z3
  go_upto_region 7 with (first
    | ((with_reducible refine gate_dst (N := 39) rfl ?_); refine Kd.R_make kB (w0 := w1) w1.heap.size 5 ?hg (N := 39) ?hd 39 _ _ rfl (Z : Int) ?hx ?hy Tryd.underlying39 (.int .u8 0) 1 info5' rfl Nat.zero_lt_one Nat.zero_lt_one 0 (ok := fun _ => True) (okp := fun _ => True) rfl (fun _ hk => hk) trivial ?hn0 ?hn1 (Below.refl _ _) (Nat.le_refl _) ?_; (case hd => rfl); (case hg => rfl); (case hx => go_simp); (case hy => go_simp); (case hn0 => omega); (case hn1 => omega); intro v2 w2 ho hb _ _; rw [Int.toNat_natCast] at ho; have HO := Aside0.mk ho; have HB := Aside0.mk hb; clear ho hb))
  clear z2 y2
  obtain ⟨g2, c2, ev2, hg2, hl2, _⟩ := Kd.R_form HO.out (by rw [List.length_replicate]; omega)
  simp only [List.length_replicate] at ev2
  subst ev2
  have h2 := H1.out.grow HB.out
  obtain ⟨_, _, z2, _⟩ := h2.cellB n hn
  obtain ⟨q0, q1⟩ := h2.cellP n hn p hp
  rw [HS.out] at q0
  have HD := Aside0.mk (h2.d n p hn hp)
  obtain ⟨Ad, cd, ed⟩ := Kd.R_slice (h2.d n p hn hp)
  rw [ed] at q1 HD
  clear ed
  have H2 := Aside0.mk h2
  have HG2 := Aside0.mk hg2
  have HL2 := Aside0.mk hl2
  clear h2 hg2 hl2
  go_upto_region 8 with (fail)
  generalize hW : (w2.alloc (.cells #[.int .i64 2, .slice Ad (D n p).length cd] 88)) = W3
  have hb3 : Below w2.heap.size w2 W3 := by rw [← hW]; exact below_alloc (Below.refl _ _) _
  have hx : W3.heap[w2.heap.size]? = some (.cells #[.int .i64 2, .slice Ad (D n p).length cd] 88 (0, 0)) := by rw [← hW]; exact new_blk _ _ _
  have x0 := Joins.cell_of_block hx 0
  have x1 := Joins.cell_of_block hx 1
  have HO3 := Aside0.mk (Kd.R_below HO.out hb3)
  have HB3 := Aside0.mk (below_step HB1.out (below_step HB.out hb3))
  have HB23 := Aside0.mk hb3
  have HB13 := Aside0.mk (below_step HB.out hb3)
  have H3 := Aside0.mk (H2.out.grow hb3)
  clear hW hb3 hx z2 q0 q1
  go_wp2
  go_ret2
  exact ⟨rfl, HB3.out⟩
end Go.Proofs.YtdlimghdimkadaaDoor.PAll
