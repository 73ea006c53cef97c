import Derived.Test.YtnhlfbkpohidpaaNe
namespace Go.Proofs.Ytnhlfbkpohidpaa.PAll
open Go.RowKit Go.Proofs.YtnhlfbkpohidpaaW.PrintWords Go.Proofs.YtnhlfbkpohidpaaW.PrintLast Go.Proofs.YtnhlfbkpohidpaaW.PrintMore
set_option linter.unusedSimpArgs false
set_option linter.unusedVariables false
attribute [local go_sem] max2_int min2_int max_two min_two max_three min_three max_four min_four
variable {w0 W : World} {gc gb : Nat} {gp : Nat → Nat} {m : Ch} {D : Nat → Nat → List Int}
/-- The first i pages are blank, or spoilt. -/
def clr (st : Int) (i : Nat) (b : Bk) : Bk := { b with pg := fun x => if x < i then ⟨st, .slice none 0 0⟩ else b.pg x }
def clrD (D : Nat → Nat → List Int) (n i : Nat) : Nat → Nat → List Int := fun x y => if x = n ∧ y < i then [] else D x y
theorem clr_zero (st : Int) (b : Bk) : clr st 0 b = b := by unfold clr; simp
theorem clrD_zero (D : Nat → Nat → List Int) (n : Nat) : clrD D n 0 = D := by funext x y; unfold clrD; simp
theorem setBk_id (m : Ch) (n : Nat) : m.setBk n (m.bk n) = m := by
  unfold Ch.setBk
  congr 1
  funext x
  by_cases h : x = n
  · subst h; simp
  · simp [h]
theorem clr_succ (st : Int) (i : Nat) (b : Bk) : (clr st i b).setPg i ⟨st, .slice none 0 0⟩ = clr st (i + 1) b := by
  unfold clr Bk.setPg
  congr 1
  funext x
  by_cases h : x = i
  · subst h; simp
  · by_cases h2 : x < i
    · simp [h, h2, show x < i + 1 by omega]
    · simp [h, h2, show ¬ x < i + 1 by omega]
theorem clrD_succ (D : Nat → Nat → List Int) (n i : Nat) : updD (clrD D n i) n i [] = clrD D n (i + 1) := by
  funext x y
  unfold clrD updD
  by_cases h : x = n
  · subst h
    by_cases h2 : y = i
    · subst h2; simp
    · by_cases h3 : y < i
      · simp [h2, h3, show y < i + 1 by omega]
      · simp [h2, h3, show ¬ y < i + 1 by omega]
  · simp [h]
set_option maxRecDepth 100000 in
set_option maxHeartbeats 8000000 in
theorem clean_is (h : St w0 W gc gb gp m D) (n : Nat) (hn : n < 16) : Calls Try.prog 31 #[bp gb n] W fun e w' => e = .returned (.tuple #[]) ∧ St w0 w' gc gb gp (m.setBk n { clr 0 16 (m.bk n) with nx := 0 }) (clrD D n 16) ∧ Keeps W w' := by
  have H := Aside0.mk h
  have z2 := (h.cellB n hn).2.2.1
  clear h
  go_enter Try.func31, Try.ntmps31
  go_upto_region 1 with (fail)
  go_loopw [8] (fun v8 wr => ∃ i : Nat, i ≤ 16 ∧ v8 = .int .i64 i ∧ Aside0 (St w0 wr gc gb gp (m.setBk n (clr 0 i (m.bk n))) (clrD D n i)) ∧ Aside0 (Keeps W wr)) (fun i _ => 16 - (intOf i).toNat)
  case atStart => exact ⟨0, Nat.zero_le _, rfl, ⟨by rw [clr_zero, setBk_id, clrD_zero]; exact H.out⟩, ⟨Keeps.refl _⟩⟩
  case round =>
    obtain ⟨i, hi, rfl, HR, HK⟩ := hrel
    clear z2
    have z2 := (HR.out.cellB n hn).2.2.1
    by_cases hlt : i < 16
    · have d0 : decide ((i : Int) < 16) = true := decide_eq_true (by omega)
      have hq : (i < 16) = True := eq_true hlt
      have hqi : ((i : Int) < 16) = True := eq_true (by omega)
      have f0 := blk_frozen (HR.out.p n hn) (i * 2)
      have f1 := blk_frozen (HR.out.p n hn) (i * 2 + 1)
      obtain ⟨q0, q1⟩ := HR.out.cellP n hn i hlt
      have h9 := HR.out.page n hn i hlt 0 (.slice none 0 0) [] (Kd.R_nil _ _ _ _ _)
      rw [setBk_self, setBk_twice, clr_succ, clrD_succ] at h9
      have hk9 := (HK.out.set (HR.out.p n hn) (by decide) (i * 2) (.int .i64 0)).set (blk_set (HR.out.p n hn) (i * 2) (.int .i64 0)) (by decide) (i * 2 + 1) (.slice none 0 0)
      have H9 := Aside0.mk h9
      have HK9 := Aside0.mk hk9
      clear h9 hk9
      go_wp2
      go_roundw
      case rel => exact ⟨i + 1, by omega, by push_cast; rfl, H9, HK9⟩
      case measure => simp [intOf]; omega
    · obtain rfl : i = 16 := by omega
      have f3 := blk_frozen HR.out.b (n * 4 + 3)
      have z3 := (HR.out.cellB n hn).2.2.2
      go_wp2
      go_end0
      have h9 := HR.out.nx n 0
      rw [setBk_self, setBk_twice] at h9
      exact ⟨rfl, h9, HK.out.set HR.out.b (by decide) _ _⟩
set_option maxRecDepth 100000 in
set_option maxHeartbeats 8000000 in
theorem spoil_is (h : St w0 W gc gb gp m D) (n : Nat) (hn : n < 16) : Calls Try.prog 32 #[bp gb n] W fun e w' => e = .returned (.tuple #[]) ∧ St w0 w' gc gb gp (m.setBk n { clr 2 16 (m.bk n) with nx := 16 }) (clrD D n 16) ∧ Keeps W w' := by
  have H := Aside0.mk h
  have z2 := (h.cellB n hn).2.2.1
  clear h
  go_enter Try.func32, Try.ntmps32
  go_upto_region 1 with (fail)
  go_loopw [8] (fun v8 wr => ∃ i : Nat, i ≤ 16 ∧ v8 = .int .i64 i ∧ Aside0 (St w0 wr gc gb gp (m.setBk n (clr 2 i (m.bk n))) (clrD D n i)) ∧ Aside0 (Keeps W wr)) (fun i _ => 16 - (intOf i).toNat)
  case atStart => exact ⟨0, Nat.zero_le _, rfl, ⟨by rw [clr_zero, setBk_id, clrD_zero]; exact H.out⟩, ⟨Keeps.refl _⟩⟩
  case round =>
    obtain ⟨i, hi, rfl, HR, HK⟩ := hrel
    clear z2
    have z2 := (HR.out.cellB n hn).2.2.1
    by_cases hlt : i < 16
    · have d0 : decide ((i : Int) < 16) = true := decide_eq_true (by omega)
      have hq : (i < 16) = True := eq_true hlt
      have hqi : ((i : Int) < 16) = True := eq_true (by omega)
      have f0 := blk_frozen (HR.out.p n hn) (i * 2)
      have f1 := blk_frozen (HR.out.p n hn) (i * 2 + 1)
      obtain ⟨q0, q1⟩ := HR.out.cellP n hn i hlt
      have h9 := HR.out.page n hn i hlt 2 (.slice none 0 0) [] (Kd.R_nil _ _ _ _ _)
      rw [setBk_self, setBk_twice, clr_succ, clrD_succ] at h9
      have hk9 := (HK.out.set (HR.out.p n hn) (by decide) (i * 2) (.int .i64 2)).set (blk_set (HR.out.p n hn) (i * 2) (.int .i64 2)) (by decide) (i * 2 + 1) (.slice none 0 0)
      have H9 := Aside0.mk h9
      have HK9 := Aside0.mk hk9
      clear h9 hk9
      go_wp2
      go_roundw
      case rel => exact ⟨i + 1, by omega, by push_cast; rfl, H9, HK9⟩
      case measure => simp [intOf]; omega
    · obtain rfl : i = 16 := by omega
      have f3 := blk_frozen HR.out.b (n * 4 + 3)
      have z3 := (HR.out.cellB n hn).2.2.2
      go_wp2
      go_end0
      have h9 := HR.out.nx n 16
      rw [setBk_self, setBk_twice] at h9
      exact ⟨rfl, h9, HK.out.set HR.out.b (by decide) _ _⟩
end Go.Proofs.Ytnhlfbkpohidpaa.PAll
