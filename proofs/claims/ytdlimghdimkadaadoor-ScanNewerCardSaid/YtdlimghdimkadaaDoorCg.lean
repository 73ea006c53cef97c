import Derived.Test.YtdlimghdimkadaaDoorCe
import Derived.Test.YtdlimghdimkadaaDoorCf
namespace Go.Proofs.YtdlimghdimkadaaDoor.PAll
open Go.RowKit Go.Proofs.YtdlimghdimkadaaDoorW.PrintWords Go.Proofs.YtdlimghdimkadaaDoorW.PrintLast Go.Proofs.YtdlimghdimkadaaDoorW.PrintMore
set_option linter.unusedSimpArgs false
set_option linter.unusedVariables false
attribute [local go_sem] max2_int min2_int max_two min_two max_three min_three max_four min_four
variable {w0 W : World} {gc gb : Nat} {gp : Nat → Nat} {m : Ch} {D : Nat → Nat → List Int}
/-- The first i pages are blank, or spoilt. -/
def clr (st : Int) (i : Nat) (b : Bk) : Bk := { b with pg := fun x => if x < i then ⟨st, .slice none 0 0⟩ else b.pg x }
def clrD (D : Nat → Nat → List Int) (n i : Nat) : Nat → Nat → List Int := fun x y => if x = n ∧ y < i then [] else D x y
theorem clr_zero (st : Int) (b : Bk) : clr st 0 b = b := by unfold clr; simp
theorem clrD_zero (D : Nat → Nat → List Int) (n : Nat) : clrD D n 0 = D := by funext x y; unfold clrD; simp
theorem setBk_id (m : Ch) (n : Nat) : m.setBk n (m.bk n) = m := by
  unfold Ch.setBk
  congr 1
  funext x
  by_cases h : x = n
  · subst h; simp
  · simp [h]
theorem clr_succ (st : Int) (i : Nat) (b : Bk) : (clr st i b).setPg i ⟨st, .slice none 0 0⟩ = clr st (i + 1) b := by
  unfold clr Bk.setPg
  congr 1
  funext x
  by_cases h : x = i
  · subst h; simp
  · by_cases h2 : x < i
    · simp [h, h2, show x < i + 1 by omega]
    · simp [h, h2, show ¬ x < i + 1 by omega]
theorem clrD_succ (D : Nat → Nat → List Int) (n i : Nat) : updD (clrD D n i) n i [] = clrD D n (i + 1) := by
  funext x y
  unfold clrD updD
  by_cases h : x = n
  · subst h
    by_cases h2 : y = i
    · subst h2; simp
    · by_cases h3 : y < i
      · simp [h2, h3, show y < i + 1 by omega]
      · simp [h2, h3, show ¬ y < i + 1 by omega]
  · simp [h]
set_option maxRecDepth 100000 in
set_option maxHeartbeats 8000000 in
theorem clean_is (h : St w0 W gc gb gp m D) (n : Nat) (hn : n < m.g.B) : Calls Tryd.prog 64 #[bp gb n] W fun e w' => e = .returned (.tuple #[]) ∧ St w0 w' gc gb gp (m.setBk n { clr 0 m.g.P (m.bk n) with nx := 0 }) (clrD D n m.g.P) ∧ Keeps W w' := by
  have H := Aside0.mk h
  have z2 := (h.cellB n hn).2.2.1
  have hzz := h.gok.2.1
  clear h
  go_enter Tryd.func64, Tryd.ntmps64
  go_upto_region 1 with (fail)
  go_loopw [8] (fun v8 wr => ∃ i : Nat, i ≤ m.g.P ∧ v8 = .int .i64 i ∧ Aside0 (St w0 wr gc gb gp (m.setBk n (clr 0 i (m.bk n))) (clrD D n i)) ∧ Aside0 (Keeps W wr)) (fun i _ => m.g.P - (intOf i).toNat)
  case atStart => exact ⟨0, Nat.zero_le _, rfl, ⟨by rw [clr_zero, setBk_id, clrD_zero]; exact H.out⟩, ⟨Keeps.refl _⟩⟩
  case round =>
    obtain ⟨i, hi, rfl, HR, HK⟩ := hrel
    clear z2
    have z2 := (HR.out.cellB n hn).2.2.1
    change wr.cell? ⟨gb, n * 4 + 2, none⟩ = some (.slice (some ⟨gp n, 0, none⟩) m.g.P m.g.P) at z2
    by_cases hlt : i < m.g.P
    · have d0 : decide ((i : Int) < (m.g.P : Int)) = true := decide_eq_true (by omega)
      have hq : (i < m.g.P) = True := eq_true hlt
      have hqi : ((i : Int) < (m.g.P : Int)) = True := eq_true (by omega)
      have f0 := blk_frozen (HR.out.p n hn) (i * 2)
      have f1 := blk_frozen (HR.out.p n hn) (i * 2 + 1)
      obtain ⟨q0, q1⟩ := HR.out.cellP n hn i hlt
      have h9 := HR.out.page n hn i hlt 0 (.slice none 0 0) [] (Kd.R_nil _ _ _ _ _)
      rw [setBk_self, setBk_twice, clr_succ, clrD_succ] at h9
      have hk9 := (HK.out.set (HR.out.p n hn) (by decide) (i * 2) (.int .i64 0)).set (blk_set (HR.out.p n hn) (i * 2) (.int .i64 0)) (by decide) (i * 2 + 1) (.slice none 0 0)
      have H9 := Aside0.mk h9
      have HK9 := Aside0.mk hk9
      clear h9 hk9
      go_wp2
      go_roundw
      case rel => exact ⟨i + 1, by omega, by push_cast; rfl, H9, HK9⟩
      case measure => simp [intOf]; omega
    · obtain rfl : i = m.g.P := by omega
      have d0 : decide ((m.g.P : Int) < (m.g.P : Int)) = false := decide_eq_false (by omega)
      have f3 := blk_frozen HR.out.b (n * 4 + 3)
      have z3 := (HR.out.cellB n hn).2.2.2
      go_wp2
      go_end0
      have h9 := HR.out.nx n 0
      rw [setBk_self, setBk_twice] at h9
      exact ⟨rfl, h9, HK.out.set HR.out.b (by decide) _ _⟩
set_option maxRecDepth 100000 in
set_option maxHeartbeats 8000000 in
theorem spoil_is (h : St w0 W gc gb gp m D) (n : Nat) (hn : n < m.g.B) : Calls Tryd.prog 65 #[bp gb n] W fun e w' => e = .returned (.tuple #[]) ∧ St w0 w' gc gb gp (m.setBk n { clr 2 m.g.P (m.bk n) with nx := (m.g.P : Int) }) (clrD D n m.g.P) ∧ Keeps W w' := by
  have H := Aside0.mk h
  have z2 := (h.cellB n hn).2.2.1
  have hzz := h.gok.2.1
  clear h
  go_enter Tryd.func65, Tryd.ntmps65
  go_upto_region 1 with (fail)
  go_loopw [8] (fun v8 wr => ∃ i : Nat, i ≤ m.g.P ∧ v8 = .int .i64 i ∧ Aside0 (St w0 wr gc gb gp (m.setBk n (clr 2 i (m.bk n))) (clrD D n i)) ∧ Aside0 (Keeps W wr)) (fun i _ => m.g.P - (intOf i).toNat)
  case atStart => exact ⟨0, Nat.zero_le _, rfl, ⟨by rw [clr_zero, setBk_id, clrD_zero]; exact H.out⟩, ⟨Keeps.refl _⟩⟩
  case round =>
    obtain ⟨i, hi, rfl, HR, HK⟩ := hrel
    clear z2
    have z2 := (HR.out.cellB n hn).2.2.1
    change wr.cell? ⟨gb, n * 4 + 2, none⟩ = some (.slice (some ⟨gp n, 0, none⟩) m.g.P m.g.P) at z2
    by_cases hlt : i < m.g.P
    · have d0 : decide ((i : Int) < (m.g.P : Int)) = true := decide_eq_true (by omega)
      have hq : (i < m.g.P) = True := eq_true hlt
      have hqi : ((i : Int) < (m.g.P : Int)) = True := eq_true (by omega)
      have f0 := blk_frozen (HR.out.p n hn) (i * 2)
      have f1 := blk_frozen (HR.out.p n hn) (i * 2 + 1)
      obtain ⟨q0, q1⟩ := HR.out.cellP n hn i hlt
      have h9 := HR.out.page n hn i hlt 2 (.slice none 0 0) [] (Kd.R_nil _ _ _ _ _)
      rw [setBk_self, setBk_twice, clr_succ, clrD_succ] at h9
      have hk9 := (HK.out.set (HR.out.p n hn) (by decide) (i * 2) (.int .i64 2)).set (blk_set (HR.out.p n hn) (i * 2) (.int .i64 2)) (by decide) (i * 2 + 1) (.slice none 0 0)
      have H9 := Aside0.mk h9
      have HK9 := Aside0.mk hk9
      clear h9 hk9
      go_wp2
      go_roundw
      case rel => exact ⟨i + 1, by omega, by push_cast; rfl, H9, HK9⟩
      case measure => simp [intOf]; omega
    · obtain rfl : i = m.g.P := by omega
      have d0 : decide ((m.g.P : Int) < (m.g.P : Int)) = false := decide_eq_false (by omega)
      have f3 := blk_frozen HR.out.b (n * 4 + 3)
      have z3 := (HR.out.cellB n hn).2.2.2
      go_wp2
      go_end0
      have h9 := HR.out.nx n (m.g.P : Int)
      rw [setBk_self, setBk_twice] at h9
      exact ⟨rfl, h9, HK.out.set HR.out.b (by decide) _ _⟩
set_option maxRecDepth 100000 in
set_option maxHeartbeats 8000000 in
theorem erase_ok (h : St w0 W gc gb gp m D) (hoff : m.off = false) (hplan : hitOf m.pl (tgt m) = none) (n : Nat) (hn : n < m.g.B) (hbad : (m.bk n).bad = false) :
    Calls Tryd.prog 42 #[cp gc, .int .i64 n] W fun e w' => e = .returned (.int .i64 0) ∧ St w0 w' gc gb gp (({ m with ops := wrap64 (m.ops + 1) } : Ch).setBk n { clr 0 m.g.P { m.bk n with er := wrap64 ((m.bk n).er + 1) } with nx := 0 }) (clrD D n m.g.P) ∧ Keeps W w' := by
  have HRY := Aside0.mk (ready_yes h hoff n hn)
  have H := Aside0.mk h
  have HPL := Aside0.mk hplan
  have HBD := Aside0.mk hbad
  have hu44 := Tryd.underlying71
  clear h hoff hplan hbad
  go_enter Tryd.func42, Tryd.ntmps42
  go_upto_region 7 with (first
    | (go_at_call 33; (with_reducible refine HRY.out.mono ?_); rintro e w1 ⟨rfl, hb1⟩; have h1 := H.out.grow hb1; have H1 := Aside0.mk h1; have HB1 := Aside0.mk hb1; have z0 := (h1.cellB n hn).1; rw [HBD.out] at z0; clear hb1 h1))
  clear z0
  have hbn := begin_any H1.out
  rw [show hitOf m.pl (wrap64 (wrap64 (m.ops + 1) - m.frm)) = none from HPL.out, show bgV none = .tuple #[.agg #[.int .i64 0, .int .i64 0, .int .i64 0], .bool false] from rfl] at hbn
  have HBN := Aside0.mk hbn
  clear hbn
  go_upto_region 8 with (first
    | (go_at_call 34; (with_reducible refine HBN.out.mono ?_); rintro e w2 ⟨rfl, h2, hk2⟩; have H2 := Aside0.mk h2; have HK2 := Aside0.mk ((Keeps.of_below HB1.out).trans hk2); clear h2 hk2))
  generalize hW : w2.alloc (.cells #[.int .i64 0, .int .i64 0, .int .i64 0] 71) = W3
  have hb3 : Below w2.heap.size w2 W3 := by rw [← hW]; exact below_alloc (Below.refl _ _) _
  have hx3 : W3.heap[w2.heap.size]? = some (.cells #[.int .i64 0, .int .i64 0, .int .i64 0] 71 (0, 0)) := by rw [← hW]; exact new_blk _ _ _
  have h3 := H2.out.grow hb3
  have z1 := (h3.cellB n hn).2.1
  have f1 := blk_frozen h3.b (n * 4 + 1)
  have H3 := Aside0.mk h3
  have HX3 := Aside0.mk hx3
  have HK3 := Aside0.mk (HK2.out.trans (Keeps.of_below hb3))
  clear hW hb3 h3 hx3
  go_upto_region 9 with (fail)
  have h4 := H3.out.er n (wrap64 ((m.bk n).er + 1))
  have hk4 := HK3.out.set H3.out.b (by decide) (n * 4 + 1) (.int .i64 (wrap64 ((m.bk n).er + 1)))
  change St w0 (W3.setCell ⟨gb, n * 4 + 1, none⟩ (.int .i64 (wrap64 ((m.bk n).er + 1)))) gc gb gp _ D at h4
  have hx4 := blk_far (p := ⟨gb, n * 4 + 1, none⟩) HX3.out (ne_of_type HX3.out H3.out.b (by decide)) (.int .i64 (wrap64 ((m.bk n).er + 1)))
  generalize W3.setCell ⟨gb, n * 4 + 1, none⟩ (.int .i64 (wrap64 ((m.bk n).er + 1))) = W4 at h4 hk4 hx4 ⊢
  have x1 := Joins.cell_of_block hx4 1
  have HCL := Aside0.mk (clean_is h4 n hn)
  have HK4 := Aside0.mk hk4
  clear z1 f1 h4 hk4 hx4
  go_wp2_with (first
    | (go_at_call 64; (with_reducible refine HCL.out.mono ?_); rintro e w5 ⟨rfl, h5, hk5⟩; have H5 := Aside0.mk h5; have HK5 := Aside0.mk (HK4.out.trans hk5); clear h5 hk5))
  go_ret
  have h6 := H5.out
  rw [setBk_self, setBk_twice] at h6
  exact ⟨rfl, h6, HK5.out⟩
set_option maxRecDepth 100000 in
set_option maxHeartbeats 8000000 in
theorem erase_fail (h : St w0 W gc gb gp m D) (hoff : m.off = false) (f : F3) (hplan : hitOf m.pl (tgt m) = some f) (hf1 : f.f1 = 2) (n : Nat) (hn : n < m.g.B) (hbad : (m.bk n).bad = false) :
    Calls Tryd.prog 42 #[cp gc, .int .i64 n] W fun e w' => e = .returned (.int .i64 5) ∧ St w0 w' gc gb gp (({ m with ops := wrap64 (m.ops + 1) } : Ch).setBk n { clr 2 m.g.P { m.bk n with er := wrap64 ((m.bk n).er + 1) } with nx := (m.g.P : Int) }) (clrD D n m.g.P) ∧ Keeps W w' := by
  have HRY := Aside0.mk (ready_yes h hoff n hn)
  have H := Aside0.mk h
  have HPL := Aside0.mk hplan
  have HBD := Aside0.mk hbad
  have hu44 := Tryd.underlying71
  have HF1 := Aside0.mk hf1
  clear h hoff hplan hbad hf1
  go_enter Tryd.func42, Tryd.ntmps42
  go_upto_region 7 with (first
    | (go_at_call 33; (with_reducible refine HRY.out.mono ?_); rintro e w1 ⟨rfl, hb1⟩; have h1 := H.out.grow hb1; have H1 := Aside0.mk h1; have HB1 := Aside0.mk hb1; have z0 := (h1.cellB n hn).1; rw [HBD.out] at z0; clear hb1 h1))
  clear z0
  have hbn := begin_any H1.out
  rw [show hitOf m.pl (wrap64 (wrap64 (m.ops + 1) - m.frm)) = some f from HPL.out, show bgV (some f) = .tuple #[.agg #[.int .i64 f.f0, .int .i64 f.f1, .int .i64 f.f2], .bool true] from rfl] at hbn
  have HBN := Aside0.mk hbn
  clear hbn
  go_upto_region 8 with (first
    | (go_at_call 34; (with_reducible refine HBN.out.mono ?_); rintro e w2 ⟨rfl, h2, hk2⟩; have H2 := Aside0.mk h2; have HK2 := Aside0.mk ((Keeps.of_below HB1.out).trans hk2); clear h2 hk2))
  generalize hW : w2.alloc (.cells #[.int .i64 f.f0, .int .i64 f.f1, .int .i64 f.f2] 71) = W3
  have hb3 : Below w2.heap.size w2 W3 := by rw [← hW]; exact below_alloc (Below.refl _ _) _
  have hx3 : W3.heap[w2.heap.size]? = some (.cells #[.int .i64 f.f0, .int .i64 f.f1, .int .i64 f.f2] 71 (0, 0)) := by rw [← hW]; exact new_blk _ _ _
  rw [HF1.out] at hx3
  have h3 := H2.out.grow hb3
  have z1 := (h3.cellB n hn).2.1
  have f1 := blk_frozen h3.b (n * 4 + 1)
  have H3 := Aside0.mk h3
  have HX3 := Aside0.mk hx3
  have HK3 := Aside0.mk (HK2.out.trans (Keeps.of_below hb3))
  clear hW hb3 h3 hx3
  go_upto_region 9 with (fail)
  have h4 := H3.out.er n (wrap64 ((m.bk n).er + 1))
  have hk4 := HK3.out.set H3.out.b (by decide) (n * 4 + 1) (.int .i64 (wrap64 ((m.bk n).er + 1)))
  change St w0 (W3.setCell ⟨gb, n * 4 + 1, none⟩ (.int .i64 (wrap64 ((m.bk n).er + 1)))) gc gb gp _ D at h4
  have hx4 := blk_far (p := ⟨gb, n * 4 + 1, none⟩) HX3.out (ne_of_type HX3.out H3.out.b (by decide)) (.int .i64 (wrap64 ((m.bk n).er + 1)))
  generalize W3.setCell ⟨gb, n * 4 + 1, none⟩ (.int .i64 (wrap64 ((m.bk n).er + 1))) = W4 at h4 hk4 hx4 ⊢
  have x1 := Joins.cell_of_block hx4 1
  have HCL := Aside0.mk (spoil_is h4 n hn)
  have HK4 := Aside0.mk hk4
  clear z1 f1 h4 hk4 hx4
  go_wp2_with (first
    | (go_at_call 65; (with_reducible refine HCL.out.mono ?_); rintro e w5 ⟨rfl, h5, hk5⟩; have H5 := Aside0.mk h5; have HK5 := Aside0.mk (HK4.out.trans hk5); clear h5 hk5))
  go_ret
  have h6 := H5.out
  rw [setBk_self, setBk_twice] at h6
  exact ⟨rfl, h6, HK5.out⟩
set_option maxRecDepth 100000 in
set_option maxHeartbeats 8000000 in
theorem erase_cut0 (h : St w0 W gc gb gp m D) (hoff : m.off = false) (f : F3) (hplan : hitOf m.pl (tgt m) = some f) (hf1 : f.f1 ≠ 2) (hf2 : f.f2 ≠ 1) (hf3 : f.f2 ≠ 2) (n : Nat) (hn : n < m.g.B) (hbad : (m.bk n).bad = false) :
    Calls Tryd.prog 42 #[cp gc, .int .i64 n] W fun e w' => e = .returned (.int .i64 6) ∧ St w0 w' gc gb gp (({ m with ops := wrap64 (m.ops + 1), off := true } : Ch).setBk n { m.bk n with er := wrap64 ((m.bk n).er + 1) }) D ∧ Keeps W w' := by
  have HRY := Aside0.mk (ready_yes h hoff n hn)
  have H := Aside0.mk h
  have HPL := Aside0.mk hplan
  have HBD := Aside0.mk hbad
  have hu44 := Tryd.underlying71
  have e1 : (f.f1 == (2 : Int)) = false := by simp only [beq_eq_false_iff_ne]; exact hf1
  have e2 : (f.f2 == (1 : Int)) = false := by simp only [beq_eq_false_iff_ne]; exact hf2
  have e3 : (f.f2 == (2 : Int)) = false := by simp only [beq_eq_false_iff_ne]; exact hf3
  clear h hoff hplan hbad hf1 hf2 hf3
  go_enter Tryd.func42, Tryd.ntmps42
  go_upto_region 7 with (first
    | (go_at_call 33; (with_reducible refine HRY.out.mono ?_); rintro e w1 ⟨rfl, hb1⟩; have h1 := H.out.grow hb1; have H1 := Aside0.mk h1; have HB1 := Aside0.mk hb1; have z0 := (h1.cellB n hn).1; rw [HBD.out] at z0; clear hb1 h1))
  clear z0
  have hbn := begin_any H1.out
  rw [show hitOf m.pl (wrap64 (wrap64 (m.ops + 1) - m.frm)) = some f from HPL.out, show bgV (some f) = .tuple #[.agg #[.int .i64 f.f0, .int .i64 f.f1, .int .i64 f.f2], .bool true] from rfl] at hbn
  have HBN := Aside0.mk hbn
  clear hbn
  go_upto_region 8 with (first
    | (go_at_call 34; (with_reducible refine HBN.out.mono ?_); rintro e w2 ⟨rfl, h2, hk2⟩; have H2 := Aside0.mk h2; have HK2 := Aside0.mk ((Keeps.of_below HB1.out).trans hk2); clear h2 hk2))
  generalize hW : w2.alloc (.cells #[.int .i64 f.f0, .int .i64 f.f1, .int .i64 f.f2] 71) = W3
  have hb3 : Below w2.heap.size w2 W3 := by rw [← hW]; exact below_alloc (Below.refl _ _) _
  have hx3 : W3.heap[w2.heap.size]? = some (.cells #[.int .i64 f.f0, .int .i64 f.f1, .int .i64 f.f2] 71 (0, 0)) := by rw [← hW]; exact new_blk _ _ _
  have h3 := H2.out.grow hb3
  have z1 := (h3.cellB n hn).2.1
  have f1 := blk_frozen h3.b (n * 4 + 1)
  have H3 := Aside0.mk h3
  have HX3 := Aside0.mk hx3
  have HK3 := Aside0.mk (HK2.out.trans (Keeps.of_below hb3))
  clear hW hb3 h3 hx3
  go_upto_region 9 with (fail)
  have h4 := H3.out.er n (wrap64 ((m.bk n).er + 1))
  have hk4 := HK3.out.set H3.out.b (by decide) (n * 4 + 1) (.int .i64 (wrap64 ((m.bk n).er + 1)))
  change St w0 (W3.setCell ⟨gb, n * 4 + 1, none⟩ (.int .i64 (wrap64 ((m.bk n).er + 1)))) gc gb gp _ D at h4
  have hx4 := blk_far (p := ⟨gb, n * 4 + 1, none⟩) HX3.out (ne_of_type HX3.out H3.out.b (by decide)) (.int .i64 (wrap64 ((m.bk n).er + 1)))
  generalize W3.setCell ⟨gb, n * 4 + 1, none⟩ (.int .i64 (wrap64 ((m.bk n).er + 1))) = W4 at h4 hk4 hx4 ⊢
  have x1 := Joins.cell_of_block hx4 1
  have fo := blk_frozen h4.c 7
  have co := h4.cellC 7
  have H4 := Aside0.mk h4
  have HK4 := Aside0.mk hk4
  have HX4 := Aside0.mk hx4
  clear z1 f1 h4 hk4 hx4
  go_upto_region 16 with (fail)
  generalize hW : W4.setCell ⟨gc, 7, none⟩ (.bool true) = W5
  have h5 := H4.out.setC 7 (.bool true) (m' := (({ m with ops := wrap64 (m.ops + 1), off := true } : Ch).setBk n { m.bk n with er := wrap64 ((m.bk n).er + 1) })) rfl rfl rfl H4.out.pln
  rw [hW] at h5
  have hk5 : Keeps W W5 := by rw [← hW]; exact HK4.out.set H4.out.c (by decide) _ _
  have hx5 : W5.heap[w2.heap.size]? = some (.cells #[.int .i64 f.f0, .int .i64 f.f1, .int .i64 f.f2] 71 (0, 0)) := by rw [← hW]; exact blk_far HX4.out (ne_of_type HX4.out H4.out.c (by decide)) _
  have x2 := Joins.cell_of_block hx5 2
  have H5 := Aside0.mk h5
  have HK5 := Aside0.mk hk5
  clear hW h5 hk5 hx5 x1 fo co
  go_wp2
  go_ret
  exact ⟨rfl, H5.out, HK5.out⟩
set_option maxRecDepth 100000 in
set_option maxHeartbeats 8000000 in
theorem erase_cut1 (h : St w0 W gc gb gp m D) (hoff : m.off = false) (f : F3) (hplan : hitOf m.pl (tgt m) = some f) (hf1 : f.f1 ≠ 2) (hf2 : f.f2 = 1) (n : Nat) (hn : n < m.g.B) (hbad : (m.bk n).bad = false) :
    Calls Tryd.prog 42 #[cp gc, .int .i64 n] W fun e w' => e = .returned (.int .i64 6) ∧ St w0 w' gc gb gp (({ m with ops := wrap64 (m.ops + 1), off := true } : Ch).setBk n { clr 2 m.g.P { m.bk n with er := wrap64 ((m.bk n).er + 1) } with nx := (m.g.P : Int) }) (clrD D n m.g.P) ∧ Keeps W w' := by
  have HRY := Aside0.mk (ready_yes h hoff n hn)
  have H := Aside0.mk h
  have HPL := Aside0.mk hplan
  have HBD := Aside0.mk hbad
  have hu44 := Tryd.underlying71
  have e1 : (f.f1 == (2 : Int)) = false := by simp only [beq_eq_false_iff_ne]; exact hf1
  have HF2 := Aside0.mk hf2
  clear h hoff hplan hbad hf1 hf2
  go_enter Tryd.func42, Tryd.ntmps42
  go_upto_region 7 with (first
    | (go_at_call 33; (with_reducible refine HRY.out.mono ?_); rintro e w1 ⟨rfl, hb1⟩; have h1 := H.out.grow hb1; have H1 := Aside0.mk h1; have HB1 := Aside0.mk hb1; have z0 := (h1.cellB n hn).1; rw [HBD.out] at z0; clear hb1 h1))
  clear z0
  have hbn := begin_any H1.out
  rw [show hitOf m.pl (wrap64 (wrap64 (m.ops + 1) - m.frm)) = some f from HPL.out, show bgV (some f) = .tuple #[.agg #[.int .i64 f.f0, .int .i64 f.f1, .int .i64 f.f2], .bool true] from rfl] at hbn
  have HBN := Aside0.mk hbn
  clear hbn
  go_upto_region 8 with (first
    | (go_at_call 34; (with_reducible refine HBN.out.mono ?_); rintro e w2 ⟨rfl, h2, hk2⟩; have H2 := Aside0.mk h2; have HK2 := Aside0.mk ((Keeps.of_below HB1.out).trans hk2); clear h2 hk2))
  generalize hW : w2.alloc (.cells #[.int .i64 f.f0, .int .i64 f.f1, .int .i64 f.f2] 71) = W3
  have hb3 : Below w2.heap.size w2 W3 := by rw [← hW]; exact below_alloc (Below.refl _ _) _
  have hx3 : W3.heap[w2.heap.size]? = some (.cells #[.int .i64 f.f0, .int .i64 f.f1, .int .i64 f.f2] 71 (0, 0)) := by rw [← hW]; exact new_blk _ _ _
  rw [HF2.out] at hx3
  have h3 := H2.out.grow hb3
  have z1 := (h3.cellB n hn).2.1
  have f1 := blk_frozen h3.b (n * 4 + 1)
  have H3 := Aside0.mk h3
  have HX3 := Aside0.mk hx3
  have HK3 := Aside0.mk (HK2.out.trans (Keeps.of_below hb3))
  clear hW hb3 h3 hx3
  go_upto_region 9 with (fail)
  have h4 := H3.out.er n (wrap64 ((m.bk n).er + 1))
  have hk4 := HK3.out.set H3.out.b (by decide) (n * 4 + 1) (.int .i64 (wrap64 ((m.bk n).er + 1)))
  change St w0 (W3.setCell ⟨gb, n * 4 + 1, none⟩ (.int .i64 (wrap64 ((m.bk n).er + 1)))) gc gb gp _ D at h4
  have hx4 := blk_far (p := ⟨gb, n * 4 + 1, none⟩) HX3.out (ne_of_type HX3.out H3.out.b (by decide)) (.int .i64 (wrap64 ((m.bk n).er + 1)))
  generalize W3.setCell ⟨gb, n * 4 + 1, none⟩ (.int .i64 (wrap64 ((m.bk n).er + 1))) = W4 at h4 hk4 hx4 ⊢
  have x1 := Joins.cell_of_block hx4 1
  have fo := blk_frozen h4.c 7
  have co := h4.cellC 7
  have H4 := Aside0.mk h4
  have HK4 := Aside0.mk hk4
  have HX4 := Aside0.mk hx4
  clear z1 f1 h4 hk4 hx4
  go_upto_region 16 with (fail)
  generalize hW : W4.setCell ⟨gc, 7, none⟩ (.bool true) = W5
  have h5 := H4.out.setC 7 (.bool true) (m' := (({ m with ops := wrap64 (m.ops + 1), off := true } : Ch).setBk n { m.bk n with er := wrap64 ((m.bk n).er + 1) })) rfl rfl rfl H4.out.pln
  rw [hW] at h5
  have hk5 : Keeps W W5 := by rw [← hW]; exact HK4.out.set H4.out.c (by decide) _ _
  have hx5 : W5.heap[w2.heap.size]? = some (.cells #[.int .i64 f.f0, .int .i64 f.f1, .int .i64 1] 71 (0, 0)) := by rw [← hW]; exact blk_far HX4.out (ne_of_type HX4.out H4.out.c (by decide)) _
  have x2 := Joins.cell_of_block hx5 2
  have H5 := Aside0.mk h5
  have HK5 := Aside0.mk hk5
  clear hW h5 hk5 hx5 x1 fo co
  have HCL := Aside0.mk (spoil_is H5.out n hn)
  go_wp2_with (first
    | (go_at_call 65; (with_reducible refine HCL.out.mono ?_); rintro e w6 ⟨rfl, h6, hk6⟩; have H6 := Aside0.mk h6; have HK6 := Aside0.mk (HK5.out.trans hk6); clear h6 hk6))
  go_ret
  have h7 := H6.out
  rw [setBk_self, setBk_twice] at h7
  exact ⟨rfl, h7, HK6.out⟩
set_option maxRecDepth 100000 in
set_option maxHeartbeats 8000000 in
theorem erase_cut2 (h : St w0 W gc gb gp m D) (hoff : m.off = false) (f : F3) (hplan : hitOf m.pl (tgt m) = some f) (hf1 : f.f1 ≠ 2) (hf2 : f.f2 = 2) (n : Nat) (hn : n < m.g.B) (hbad : (m.bk n).bad = false) :
    Calls Tryd.prog 42 #[cp gc, .int .i64 n] W fun e w' => e = .returned (.int .i64 6) ∧ St w0 w' gc gb gp (({ m with ops := wrap64 (m.ops + 1), off := true } : Ch).setBk n { clr 0 m.g.P { m.bk n with er := wrap64 ((m.bk n).er + 1) } with nx := 0 }) (clrD D n m.g.P) ∧ Keeps W w' := by
  have HRY := Aside0.mk (ready_yes h hoff n hn)
  have H := Aside0.mk h
  have HPL := Aside0.mk hplan
  have HBD := Aside0.mk hbad
  have hu44 := Tryd.underlying71
  have e1 : (f.f1 == (2 : Int)) = false := by simp only [beq_eq_false_iff_ne]; exact hf1
  have HF2 := Aside0.mk hf2
  clear h hoff hplan hbad hf1 hf2
  go_enter Tryd.func42, Tryd.ntmps42
  go_upto_region 7 with (first
    | (go_at_call 33; (with_reducible refine HRY.out.mono ?_); rintro e w1 ⟨rfl, hb1⟩; have h1 := H.out.grow hb1; have H1 := Aside0.mk h1; have HB1 := Aside0.mk hb1; have z0 := (h1.cellB n hn).1; rw [HBD.out] at z0; clear hb1 h1))
  clear z0
  have hbn := begin_any H1.out
  rw [show hitOf m.pl (wrap64 (wrap64 (m.ops + 1) - m.frm)) = some f from HPL.out, show bgV (some f) = .tuple #[.agg #[.int .i64 f.f0, .int .i64 f.f1, .int .i64 f.f2], .bool true] from rfl] at hbn
  have HBN := Aside0.mk hbn
  clear hbn
  go_upto_region 8 with (first
    | (go_at_call 34; (with_reducible refine HBN.out.mono ?_); rintro e w2 ⟨rfl, h2, hk2⟩; have H2 := Aside0.mk h2; have HK2 := Aside0.mk ((Keeps.of_below HB1.out).trans hk2); clear h2 hk2))
  generalize hW : w2.alloc (.cells #[.int .i64 f.f0, .int .i64 f.f1, .int .i64 f.f2] 71) = W3
  have hb3 : Below w2.heap.size w2 W3 := by rw [← hW]; exact below_alloc (Below.refl _ _) _
  have hx3 : W3.heap[w2.heap.size]? = some (.cells #[.int .i64 f.f0, .int .i64 f.f1, .int .i64 f.f2] 71 (0, 0)) := by rw [← hW]; exact new_blk _ _ _
  rw [HF2.out] at hx3
  have h3 := H2.out.grow hb3
  have z1 := (h3.cellB n hn).2.1
  have f1 := blk_frozen h3.b (n * 4 + 1)
  have H3 := Aside0.mk h3
  have HX3 := Aside0.mk hx3
  have HK3 := Aside0.mk (HK2.out.trans (Keeps.of_below hb3))
  clear hW hb3 h3 hx3
  go_upto_region 9 with (fail)
  have h4 := H3.out.er n (wrap64 ((m.bk n).er + 1))
  have hk4 := HK3.out.set H3.out.b (by decide) (n * 4 + 1) (.int .i64 (wrap64 ((m.bk n).er + 1)))
  change St w0 (W3.setCell ⟨gb, n * 4 + 1, none⟩ (.int .i64 (wrap64 ((m.bk n).er + 1)))) gc gb gp _ D at h4
  have hx4 := blk_far (p := ⟨gb, n * 4 + 1, none⟩) HX3.out (ne_of_type HX3.out H3.out.b (by decide)) (.int .i64 (wrap64 ((m.bk n).er + 1)))
  generalize W3.setCell ⟨gb, n * 4 + 1, none⟩ (.int .i64 (wrap64 ((m.bk n).er + 1))) = W4 at h4 hk4 hx4 ⊢
  have x1 := Joins.cell_of_block hx4 1
  have fo := blk_frozen h4.c 7
  have co := h4.cellC 7
  have H4 := Aside0.mk h4
  have HK4 := Aside0.mk hk4
  have HX4 := Aside0.mk hx4
  clear z1 f1 h4 hk4 hx4
  go_upto_region 16 with (fail)
  generalize hW : W4.setCell ⟨gc, 7, none⟩ (.bool true) = W5
  have h5 := H4.out.setC 7 (.bool true) (m' := (({ m with ops := wrap64 (m.ops + 1), off := true } : Ch).setBk n { m.bk n with er := wrap64 ((m.bk n).er + 1) })) rfl rfl rfl H4.out.pln
  rw [hW] at h5
  have hk5 : Keeps W W5 := by rw [← hW]; exact HK4.out.set H4.out.c (by decide) _ _
  have hx5 : W5.heap[w2.heap.size]? = some (.cells #[.int .i64 f.f0, .int .i64 f.f1, .int .i64 2] 71 (0, 0)) := by rw [← hW]; exact blk_far HX4.out (ne_of_type HX4.out H4.out.c (by decide)) _
  have x2 := Joins.cell_of_block hx5 2
  have H5 := Aside0.mk h5
  have HK5 := Aside0.mk hk5
  clear hW h5 hk5 hx5 x1 fo co
  have HCL := Aside0.mk (clean_is H5.out n hn)
  go_wp2_with (first
    | (go_at_call 64; (with_reducible refine HCL.out.mono ?_); rintro e w6 ⟨rfl, h6, hk6⟩; have H6 := Aside0.mk h6; have HK6 := Aside0.mk (HK5.out.trans hk6); clear h6 hk6))
  go_ret
  have h7 := H6.out
  rw [setBk_self, setBk_twice] at h7
  exact ⟨rfl, h7, HK6.out⟩
set_option maxRecDepth 100000 in
set_option maxHeartbeats 8000000 in
theorem erase_perm (h : St w0 W gc gb gp m D) (hoff : m.off = false) (n : Nat) (hn : n < m.g.B) (hbad : (m.bk n).bad = true) :
    Calls Tryd.prog 42 #[cp gc, .int .i64 n] W fun e w' => e = .returned (.int .i64 1) ∧ St w0 w' gc gb gp { m with wrong := wrap64 (m.wrong + 1) } D ∧ Keeps W w' := by
  have HRY := Aside0.mk (ready_yes h hoff n hn)
  have H := Aside0.mk h
  have HB := Aside0.mk hbad
  clear h hoff hbad
  go_enter Tryd.func42, Tryd.ntmps42
  go_wp2_with (first
    | (go_at_call 33; (with_reducible refine HRY.out.mono ?_); rintro e w1 ⟨rfl, hb1⟩; have h1 := H.out.grow hb1; have H1 := Aside0.mk h1; have HB1 := Aside0.mk hb1; have z0 := (h1.cellB n hn).1; rw [HB.out] at z0; have y9 : w1.cell? ⟨gc, 9, none⟩ = some (.int .i64 m.wrong) := h1.cellC 9; have f9 := blk_frozen h1.c 9; clear hb1 h1))
  go_ret
  exact ⟨rfl, H1.out.wrong _, (Keeps.of_below HB1.out).set H1.out.c (by decide) _ _⟩
set_option maxRecDepth 100000 in
set_option maxHeartbeats 8000000 in
theorem mark_ok (h : St w0 W gc gb gp m D) (hoff : m.off = false) (n : Nat) (hn : n < m.g.B) :
    Calls Tryd.prog 44 #[cp gc, .int .i64 n] W fun e w' => e = .returned (.int .i64 0) ∧ St w0 w' gc gb gp (m.setBk n { m.bk n with bad := true }) D ∧ Keeps W w' := by
  have HRY := Aside0.mk (ready_yes h hoff n hn)
  have H := Aside0.mk h
  clear h hoff
  go_enter Tryd.func44, Tryd.ntmps44
  go_wp2_with (first
    | (go_at_call 33; (with_reducible refine HRY.out.mono ?_); rintro e w1 ⟨rfl, hb1⟩; have h1 := H.out.grow hb1; have H1 := Aside0.mk h1; have HB1 := Aside0.mk hb1; have z0 := (h1.cellB n hn).1; have f0 := blk_frozen h1.b (n * 4); clear hb1 h1))
  go_ret
  exact ⟨rfl, H1.out.badS n true, (Keeps.of_below HB1.out).set H1.out.b (by decide) _ _⟩
/-! ### where the chip is not ready -/
set_option maxRecDepth 100000 in
theorem read_err {k : Int} (hk : k ≠ 0) (n : Int) (p : Int) (hr : Calls Tryd.prog 33 #[cp gc, .int .i64 n] W fun e w' => e = .returned (.tuple #[.pointer none, .int .i64 k]) ∧ Below W.heap.size W w') :
    Calls Tryd.prog 26 #[cp gc, .int .i64 n, .int .i64 p] W fun e w' => e = .returned (.tuple #[.slice none 0 0, .int .i64 k]) ∧ Below W.heap.size W w' := by
  have HRY := Aside0.mk hr
  have e1 : (k == 0) = false := by simp only [beq_eq_false_iff_ne]; exact hk
  have e2 : (k != 0) = true := by simp only [bne_iff_ne]; exact hk
  clear hr hk
  go_enter Tryd.func26, Tryd.ntmps26
  go_wp2_with (first
    | (go_at_call 33; (with_reducible refine HRY.out.mono ?_); rintro e w1 ⟨rfl, hb1⟩; have HB1 := Aside0.mk hb1; clear hb1))
  go_ret2
  exact ⟨rfl, HB1.out⟩
set_option maxRecDepth 100000 in
theorem program_err {k : Int} (hk : k ≠ 0) (n : Int) (p : Int) (v : Value) (hr : Calls Tryd.prog 33 #[cp gc, .int .i64 n] W fun e w' => e = .returned (.tuple #[.pointer none, .int .i64 k]) ∧ Below W.heap.size W w') :
    Calls Tryd.prog 18 #[cp gc, .int .i64 n, .int .i64 p, v] W fun e w' => e = .returned (.int .i64 k) ∧ Below W.heap.size W w' := by
  have HRY := Aside0.mk hr
  have e1 : (k == 0) = false := by simp only [beq_eq_false_iff_ne]; exact hk
  have e2 : (k != 0) = true := by simp only [bne_iff_ne]; exact hk
  clear hr hk
  go_enter Tryd.func18, Tryd.ntmps18
  go_wp2_with (first
    | (go_at_call 33; (with_reducible refine HRY.out.mono ?_); rintro e w1 ⟨rfl, hb1⟩; have HB1 := Aside0.mk hb1; clear hb1))
  go_ret
  exact ⟨rfl, HB1.out⟩
set_option maxRecDepth 100000 in
theorem erase_err {k : Int} (hk : k ≠ 0) (n : Int) (hr : Calls Tryd.prog 33 #[cp gc, .int .i64 n] W fun e w' => e = .returned (.tuple #[.pointer none, .int .i64 k]) ∧ Below W.heap.size W w') :
    Calls Tryd.prog 42 #[cp gc, .int .i64 n] W fun e w' => e = .returned (.int .i64 k) ∧ Below W.heap.size W w' := by
  have HRY := Aside0.mk hr
  have e1 : (k == 0) = false := by simp only [beq_eq_false_iff_ne]; exact hk
  have e2 : (k != 0) = true := by simp only [bne_iff_ne]; exact hk
  clear hr hk
  go_enter Tryd.func42, Tryd.ntmps42
  go_wp2_with (first
    | (go_at_call 33; (with_reducible refine HRY.out.mono ?_); rintro e w1 ⟨rfl, hb1⟩; have HB1 := Aside0.mk hb1; clear hb1))
  go_ret
  exact ⟨rfl, HB1.out⟩
set_option maxRecDepth 100000 in
theorem mark_err {k : Int} (hk : k ≠ 0) (n : Int) (hr : Calls Tryd.prog 33 #[cp gc, .int .i64 n] W fun e w' => e = .returned (.tuple #[.pointer none, .int .i64 k]) ∧ Below W.heap.size W w') :
    Calls Tryd.prog 44 #[cp gc, .int .i64 n] W fun e w' => e = .returned (.int .i64 k) ∧ Below W.heap.size W w' := by
  have HRY := Aside0.mk hr
  have e1 : (k == 0) = false := by simp only [beq_eq_false_iff_ne]; exact hk
  have e2 : (k != 0) = true := by simp only [bne_iff_ne]; exact hk
  clear hr hk
  go_enter Tryd.func44, Tryd.ntmps44
  go_wp2_with (first
    | (go_at_call 33; (with_reducible refine HRY.out.mono ?_); rintro e w1 ⟨rfl, hb1⟩; have HB1 := Aside0.mk hb1; clear hb1))
  go_ret
  exact ⟨rfl, HB1.out⟩
/-! ### a page that is none, or too many bytes -/
set_option maxRecDepth 100000 in
set_option maxHeartbeats 8000000 in
theorem read_range (h : St w0 W gc gb gp m D) (hoff : m.off = false) (n : Nat) (hn : n < m.g.B) (p : Int) (hp : p < 0 ∨ m.g.P ≤ p) :
    Calls Tryd.prog 26 #[cp gc, .int .i64 n, .int .i64 p] W fun e w' => e = .returned (.tuple #[.slice none 0 0, .int .i64 22]) ∧ Below W.heap.size W w' := by
  have HRY := Aside0.mk (ready_yes h hoff n hn)
  have H := Aside0.mk h
  clear h hoff
  by_cases h0 : p < 0
  · have d1 : decide (p < 0) = true := decide_eq_true h0
    clear hp
    go_enter Tryd.func26, Tryd.ntmps26
    go_wp2_with (first
      | (go_at_call 33; (with_reducible refine HRY.out.mono ?_); rintro e w1 ⟨rfl, hb1⟩; have HB1 := Aside0.mk hb1; clear hb1))
    go_ret2
    exact ⟨rfl, HB1.out⟩
  · have d1 : decide (p < 0) = false := decide_eq_false h0
    have d2 : decide ((m.g.P : Int) ≤ p) = true := decide_eq_true (by omega)
    clear hp
    go_enter Tryd.func26, Tryd.ntmps26
    go_wp2_with (first
      | (go_at_call 33; (with_reducible refine HRY.out.mono ?_); rintro e w1 ⟨rfl, hb1⟩; have h1 := H.out.grow hb1; have HB1 := Aside0.mk hb1; have z2 := (h1.cellB n hn).2.2.1; clear hb1 h1))
    go_ret2
    exact ⟨rfl, HB1.out⟩
set_option maxRecDepth 100000 in
set_option maxHeartbeats 8000000 in
theorem program_range (h : St w0 W gc gb gp m D) (hoff : m.off = false) (n : Nat) (hn : n < m.g.B) (p : Int) (A : Option Addr) (len c : Nat) (hp : p < 0 ∨ m.g.P ≤ p ∨ m.g.Z < len) :
    Calls Tryd.prog 18 #[cp gc, .int .i64 n, .int .i64 p, .slice A len c] W fun e w' => e = .returned (.int .i64 22) ∧ Below W.heap.size W w' := by
  have HRY := Aside0.mk (ready_yes h hoff n hn)
  have H := Aside0.mk h
  clear h hoff
  by_cases h0 : p < 0
  · have d1 : decide (p < 0) = true := decide_eq_true h0
    clear hp
    go_enter Tryd.func18, Tryd.ntmps18
    go_wp2_with (first
      | (go_at_call 33; (with_reducible refine HRY.out.mono ?_); rintro e w1 ⟨rfl, hb1⟩; have HB1 := Aside0.mk hb1; clear hb1))
    go_ret
    exact ⟨rfl, HB1.out⟩
  · have d1 : decide (p < 0) = false := decide_eq_false h0
    by_cases h1 : m.g.P ≤ p
    · have d2 : decide ((m.g.P : Int) ≤ p) = true := decide_eq_true h1
      clear hp
      go_enter Tryd.func18, Tryd.ntmps18
      go_wp2_with (first
        | (go_at_call 33; (with_reducible refine HRY.out.mono ?_); rintro e w1 ⟨rfl, hb1⟩; have h1 := H.out.grow hb1; have HB1 := Aside0.mk hb1; have z2 := (h1.cellB n hn).2.2.1; clear hb1 h1))
      go_ret
      exact ⟨rfl, HB1.out⟩
    · have d2 : decide ((m.g.P : Int) ≤ p) = false := decide_eq_false h1
      have hl : m.g.Z < len := by omega
      have d3 : decide ((m.g.Z : Int) < (len : Int)) = true := decide_eq_true (by omega)
      have d4 : decide (m.g.Z < len) = true := decide_eq_true hl
      clear hp
      go_enter Tryd.func18, Tryd.ntmps18
      go_wp2_with (first
        | (go_at_call 33; (with_reducible refine HRY.out.mono ?_); rintro e w1 ⟨rfl, hb1⟩; have h1 := H.out.grow hb1; have HB1 := Aside0.mk hb1; have z2 := (h1.cellB n hn).2.2.1; have y2 : w1.cell? ⟨gc, 2, none⟩ = some (.int .i64 m.g.Z) := h1.cellC 2; clear hb1 h1))
      go_ret
      exact ⟨rfl, HB1.out⟩
set_option maxRecDepth 100000 in
set_option maxHeartbeats 8000000 in
theorem power_is (h : St w0 W gc gb gp m D) : Calls Tryd.prog 22 #[cp gc] W fun e w' => e = .returned (.tuple #[]) ∧ St w0 w' gc gb gp { m with off := false } D ∧ Keeps W w' := by
  have H := Aside0.mk h
  have y7 : W.cell? ⟨gc, 7, none⟩ = some (.bool m.off) := h.cellC 7
  have f7 := blk_frozen h.c 7
  clear h
  go_enter Tryd.func22, Tryd.ntmps22
  go_wp2
  go_end0
  exact ⟨rfl, H.out.setC 7 _ rfl rfl rfl H.out.pln, (Keeps.refl W).set H.out.c (by decide) _ _⟩
end Go.Proofs.YtdlimghdimkadaaDoor.PAll
