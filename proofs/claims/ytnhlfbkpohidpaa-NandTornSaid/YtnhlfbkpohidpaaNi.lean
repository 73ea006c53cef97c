import Derived.Test.YtnhlfbkpohidpaaNh
namespace Go.Proofs.Ytnhlfbkpohidpaa.PAll
open Go.RowKit Go.Proofs.YtnhlfbkpohidpaaW.PrintWords Go.Proofs.YtnhlfbkpohidpaaW.PrintLast Go.Proofs.YtnhlfbkpohidpaaW.PrintMore
set_option linter.unusedSimpArgs false
set_option linter.unusedVariables false
attribute [local go_sem] max2_int min2_int max_two min_two max_three min_three max_four min_four
variable {w0 W : World} {gc gb : Nat} {gp : Nat → Nat} {m : Ch} {D : Nat → Nat → List Int}
/-! ### Erase without a fault -/
set_option maxRecDepth 100000 in
set_option maxHeartbeats 8000000 in
theorem erase_ok (h : St w0 W gc gb gp m D) (hoff : m.off = false) (hplan : ∀ f ∈ m.pl, f.f0 ≠ wrap64 (wrap64 (m.ops + 1) - m.frm)) (n : Nat) (hn : n < 16) (hbad : (m.bk n).bad = false) :
    Calls Try.prog 12 #[cp gc, .int .i64 n] W fun e w' => e = .returned (.int .i64 0) ∧ St w0 w' gc gb gp (({ m with ops := wrap64 (m.ops + 1) } : Ch).setBk n { clr 0 16 { m.bk n with er := wrap64 ((m.bk n).er + 1) } with nx := 0 }) (clrD D n 16) ∧ Keeps W w' := by
  have HRY := Aside0.mk (ready_yes h hoff n hn)
  have H := Aside0.mk h
  have HPL := Aside0.mk hplan
  have HBD := Aside0.mk hbad
  have hu44 := Try.underlying44
  clear h hoff hplan hbad
  go_enter Try.func12, Try.ntmps12
  go_upto_region 7 with (first
    | (go_at_call 27; (with_reducible refine HRY.out.mono ?_); rintro e w1 ⟨rfl, hb1⟩; have h1 := H.out.grow hb1; have H1 := Aside0.mk h1; have HB1 := Aside0.mk hb1; have z0 := (h1.cellB n hn).1; rw [HBD.out] at z0; clear hb1 h1))
  clear z0
  have HBN := Aside0.mk (begin_miss H1.out HPL.out)
  go_upto_region 8 with (first
    | (go_at_call 29; (with_reducible refine HBN.out.mono ?_); rintro e w2 ⟨rfl, h2, hk2⟩; have H2 := Aside0.mk h2; have HK2 := Aside0.mk ((Keeps.of_below HB1.out).trans hk2); clear h2 hk2))
  generalize hW : w2.alloc (.cells #[.int .i64 0, .int .i64 0, .int .i64 0] 44) = W3
  have hb3 : Below w2.heap.size w2 W3 := by rw [← hW]; exact below_alloc (Below.refl _ _) _
  have h3 := H2.out.grow hb3
  have z1 := (h3.cellB n hn).2.1
  have f1 := blk_frozen h3.b (n * 4 + 1)
  have H3 := Aside0.mk h3
  have HK3 := Aside0.mk (HK2.out.trans (Keeps.of_below hb3))
  clear hW hb3 h3
  go_upto_region 9 with (fail)
  have h4 := H3.out.er n (wrap64 ((m.bk n).er + 1))
  have hk4 := HK3.out.set H3.out.b (by decide) (n * 4 + 1) (.int .i64 (wrap64 ((m.bk n).er + 1)))
  change St w0 (W3.setCell ⟨gb, n * 4 + 1, none⟩ (.int .i64 (wrap64 ((m.bk n).er + 1)))) gc gb gp _ D at h4
  generalize W3.setCell ⟨gb, n * 4 + 1, none⟩ (.int .i64 (wrap64 ((m.bk n).er + 1))) = W4 at h4 hk4 ⊢
  have HCL := Aside0.mk (clean_is h4 n hn)
  have HK4 := Aside0.mk hk4
  clear z1 f1 h4 hk4
  go_wp2_with (first
    | (go_at_call 31; (with_reducible refine HCL.out.mono ?_); rintro e w5 ⟨rfl, h5, hk5⟩; have H5 := Aside0.mk h5; have HK5 := Aside0.mk (HK4.out.trans hk5); clear h5 hk5))
  go_ret
  have h6 := H5.out
  rw [setBk_self, setBk_twice] at h6
  exact ⟨rfl, h6, HK5.out⟩
set_option maxRecDepth 100000 in
set_option maxHeartbeats 8000000 in
theorem erase_perm (h : St w0 W gc gb gp m D) (hoff : m.off = false) (n : Nat) (hn : n < 16) (hbad : (m.bk n).bad = true) :
    Calls Try.prog 12 #[cp gc, .int .i64 n] W fun e w' => e = .returned (.int .i64 1) ∧ St w0 w' gc gb gp { m with wrong := wrap64 (m.wrong + 1) } D ∧ Keeps W w' := by
  have HRY := Aside0.mk (ready_yes h hoff n hn)
  have H := Aside0.mk h
  have HB := Aside0.mk hbad
  clear h hoff hbad
  go_enter Try.func12, Try.ntmps12
  go_wp2_with (first
    | (go_at_call 27; (with_reducible refine HRY.out.mono ?_); rintro e w1 ⟨rfl, hb1⟩; have h1 := H.out.grow hb1; have H1 := Aside0.mk h1; have HB1 := Aside0.mk hb1; have z0 := (h1.cellB n hn).1; rw [HB.out] at z0; have y9 : w1.cell? ⟨gc, 9, none⟩ = some (.int .i64 m.wrong) := h1.cellC 9; have f9 := blk_frozen h1.c 9; clear hb1 h1))
  go_ret
  exact ⟨rfl, H1.out.wrong _, (Keeps.of_below HB1.out).set H1.out.c (by decide) _ _⟩
set_option maxRecDepth 100000 in
set_option maxHeartbeats 8000000 in
theorem mark_ok (h : St w0 W gc gb gp m D) (hoff : m.off = false) (n : Nat) (hn : n < 16) :
    Calls Try.prog 13 #[cp gc, .int .i64 n] W fun e w' => e = .returned (.int .i64 0) ∧ St w0 w' gc gb gp (m.setBk n { m.bk n with bad := true }) D ∧ Keeps W w' := by
  have HRY := Aside0.mk (ready_yes h hoff n hn)
  have H := Aside0.mk h
  clear h hoff
  go_enter Try.func13, Try.ntmps13
  go_wp2_with (first
    | (go_at_call 27; (with_reducible refine HRY.out.mono ?_); rintro e w1 ⟨rfl, hb1⟩; have h1 := H.out.grow hb1; have H1 := Aside0.mk h1; have HB1 := Aside0.mk hb1; have z0 := (h1.cellB n hn).1; have f0 := blk_frozen h1.b (n * 4); clear hb1 h1))
  go_ret
  exact ⟨rfl, H1.out.badS n true, (Keeps.of_below HB1.out).set H1.out.b (by decide) _ _⟩
/-! ### where the chip is not ready -/
set_option maxRecDepth 100000 in
theorem read_err {k : Int} (hk : k ≠ 0) (n : Int) (p : Int) (hr : Calls Try.prog 27 #[cp gc, .int .i64 n] W fun e w' => e = .returned (.tuple #[.pointer none, .int .i64 k]) ∧ Below W.heap.size W w') :
    Calls Try.prog 9 #[cp gc, .int .i64 n, .int .i64 p] W fun e w' => e = .returned (.tuple #[.slice none 0 0, .int .i64 k]) ∧ Below W.heap.size W w' := by
  have HRY := Aside0.mk hr
  have e1 : (k == 0) = false := by simp only [beq_eq_false_iff_ne]; exact hk
  have e2 : (k != 0) = true := by simp only [bne_iff_ne]; exact hk
  clear hr hk
  go_enter Try.func9, Try.ntmps9
  go_wp2_with (first
    | (go_at_call 27; (with_reducible refine HRY.out.mono ?_); rintro e w1 ⟨rfl, hb1⟩; have HB1 := Aside0.mk hb1; clear hb1))
  go_ret2
  exact ⟨rfl, HB1.out⟩
set_option maxRecDepth 100000 in
theorem program_err {k : Int} (hk : k ≠ 0) (n : Int) (p : Int) (v : Value) (hr : Calls Try.prog 27 #[cp gc, .int .i64 n] W fun e w' => e = .returned (.tuple #[.pointer none, .int .i64 k]) ∧ Below W.heap.size W w') :
    Calls Try.prog 11 #[cp gc, .int .i64 n, .int .i64 p, v] W fun e w' => e = .returned (.int .i64 k) ∧ Below W.heap.size W w' := by
  have HRY := Aside0.mk hr
  have e1 : (k == 0) = false := by simp only [beq_eq_false_iff_ne]; exact hk
  have e2 : (k != 0) = true := by simp only [bne_iff_ne]; exact hk
  clear hr hk
  go_enter Try.func11, Try.ntmps11
  go_wp2_with (first
    | (go_at_call 27; (with_reducible refine HRY.out.mono ?_); rintro e w1 ⟨rfl, hb1⟩; have HB1 := Aside0.mk hb1; clear hb1))
  go_ret
  exact ⟨rfl, HB1.out⟩
set_option maxRecDepth 100000 in
theorem erase_err {k : Int} (hk : k ≠ 0) (n : Int) (hr : Calls Try.prog 27 #[cp gc, .int .i64 n] W fun e w' => e = .returned (.tuple #[.pointer none, .int .i64 k]) ∧ Below W.heap.size W w') :
    Calls Try.prog 12 #[cp gc, .int .i64 n] W fun e w' => e = .returned (.int .i64 k) ∧ Below W.heap.size W w' := by
  have HRY := Aside0.mk hr
  have e1 : (k == 0) = false := by simp only [beq_eq_false_iff_ne]; exact hk
  have e2 : (k != 0) = true := by simp only [bne_iff_ne]; exact hk
  clear hr hk
  go_enter Try.func12, Try.ntmps12
  go_wp2_with (first
    | (go_at_call 27; (with_reducible refine HRY.out.mono ?_); rintro e w1 ⟨rfl, hb1⟩; have HB1 := Aside0.mk hb1; clear hb1))
  go_ret
  exact ⟨rfl, HB1.out⟩
set_option maxRecDepth 100000 in
theorem mark_err {k : Int} (hk : k ≠ 0) (n : Int) (hr : Calls Try.prog 27 #[cp gc, .int .i64 n] W fun e w' => e = .returned (.tuple #[.pointer none, .int .i64 k]) ∧ Below W.heap.size W w') :
    Calls Try.prog 13 #[cp gc, .int .i64 n] W fun e w' => e = .returned (.int .i64 k) ∧ Below W.heap.size W w' := by
  have HRY := Aside0.mk hr
  have e1 : (k == 0) = false := by simp only [beq_eq_false_iff_ne]; exact hk
  have e2 : (k != 0) = true := by simp only [bne_iff_ne]; exact hk
  clear hr hk
  go_enter Try.func13, Try.ntmps13
  go_wp2_with (first
    | (go_at_call 27; (with_reducible refine HRY.out.mono ?_); rintro e w1 ⟨rfl, hb1⟩; have HB1 := Aside0.mk hb1; clear hb1))
  go_ret
  exact ⟨rfl, HB1.out⟩
/-! ### a page that is none, or too many bytes -/
set_option maxRecDepth 100000 in
set_option maxHeartbeats 8000000 in
theorem read_range (h : St w0 W gc gb gp m D) (hoff : m.off = false) (n : Nat) (hn : n < 16) (p : Int) (hp : p < 0 ∨ 16 ≤ p) :
    Calls Try.prog 9 #[cp gc, .int .i64 n, .int .i64 p] W fun e w' => e = .returned (.tuple #[.slice none 0 0, .int .i64 22]) ∧ Below W.heap.size W w' := by
  have HRY := Aside0.mk (ready_yes h hoff n hn)
  have H := Aside0.mk h
  clear h hoff
  by_cases h0 : p < 0
  · have d1 : decide (p < 0) = true := decide_eq_true h0
    clear hp
    go_enter Try.func9, Try.ntmps9
    go_wp2_with (first
      | (go_at_call 27; (with_reducible refine HRY.out.mono ?_); rintro e w1 ⟨rfl, hb1⟩; have HB1 := Aside0.mk hb1; clear hb1))
    go_ret2
    exact ⟨rfl, HB1.out⟩
  · have d1 : decide (p < 0) = false := decide_eq_false h0
    have d2 : decide ((16 : Int) ≤ p) = true := decide_eq_true (by omega)
    clear hp
    go_enter Try.func9, Try.ntmps9
    go_wp2_with (first
      | (go_at_call 27; (with_reducible refine HRY.out.mono ?_); rintro e w1 ⟨rfl, hb1⟩; have h1 := H.out.grow hb1; have HB1 := Aside0.mk hb1; have z2 := (h1.cellB n hn).2.2.1; clear hb1 h1))
    go_ret2
    exact ⟨rfl, HB1.out⟩
set_option maxRecDepth 100000 in
set_option maxHeartbeats 8000000 in
theorem program_range (h : St w0 W gc gb gp m D) (hoff : m.off = false) (n : Nat) (hn : n < 16) (p : Int) (A : Option Addr) (len c : Nat) (hp : p < 0 ∨ 16 ≤ p ∨ 128 < len) :
    Calls Try.prog 11 #[cp gc, .int .i64 n, .int .i64 p, .slice A len c] W fun e w' => e = .returned (.int .i64 22) ∧ Below W.heap.size W w' := by
  have HRY := Aside0.mk (ready_yes h hoff n hn)
  have H := Aside0.mk h
  clear h hoff
  by_cases h0 : p < 0
  · have d1 : decide (p < 0) = true := decide_eq_true h0
    clear hp
    go_enter Try.func11, Try.ntmps11
    go_wp2_with (first
      | (go_at_call 27; (with_reducible refine HRY.out.mono ?_); rintro e w1 ⟨rfl, hb1⟩; have HB1 := Aside0.mk hb1; clear hb1))
    go_ret
    exact ⟨rfl, HB1.out⟩
  · have d1 : decide (p < 0) = false := decide_eq_false h0
    by_cases h1 : 16 ≤ p
    · have d2 : decide ((16 : Int) ≤ p) = true := decide_eq_true h1
      clear hp
      go_enter Try.func11, Try.ntmps11
      go_wp2_with (first
        | (go_at_call 27; (with_reducible refine HRY.out.mono ?_); rintro e w1 ⟨rfl, hb1⟩; have h1 := H.out.grow hb1; have HB1 := Aside0.mk hb1; have z2 := (h1.cellB n hn).2.2.1; clear hb1 h1))
      go_ret
      exact ⟨rfl, HB1.out⟩
    · have d2 : decide ((16 : Int) ≤ p) = false := decide_eq_false h1
      have hl : 128 < len := by omega
      have d3 : decide ((128 : Int) < (len : Int)) = true := decide_eq_true (by omega)
      have d4 : decide (128 < len) = true := decide_eq_true hl
      clear hp
      go_enter Try.func11, Try.ntmps11
      go_wp2_with (first
        | (go_at_call 27; (with_reducible refine HRY.out.mono ?_); rintro e w1 ⟨rfl, hb1⟩; have h1 := H.out.grow hb1; have HB1 := Aside0.mk hb1; have z2 := (h1.cellB n hn).2.2.1; have y2 : w1.cell? ⟨gc, 2, none⟩ = some (.int .i64 128) := h1.cellC 2; clear hb1 h1))
      go_ret
      exact ⟨rfl, HB1.out⟩
end Go.Proofs.Ytnhlfbkpohidpaa.PAll
