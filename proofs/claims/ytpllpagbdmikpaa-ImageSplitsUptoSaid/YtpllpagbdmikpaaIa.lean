import Derived.Test.YtpllpagbdmikpaaHy
namespace Go.Proofs.Ytpllpagbdmikpaa.PAll
open Go.RowKit Go.Proofs.YtpllpagbdmikpaaW.PrintWords
set_option linter.unusedSimpArgs false
set_option linter.unusedVariables false
/-! ### levels: both sides -/
def levelsN (n : Int) : Int := if n < 1 then 0 else (lvls (n.toNat + 1) n.toNat : Nat)
theorem tdiv8 (n : Nat) : Int.tdiv (n : Int) 8 = ((n / 8 : Nat) : Int) := by rw [Int.tdiv_eq_ediv_of_nonneg (by omega)]; omega
theorem tmod8 (n : Nat) : Int.tmod (n : Int) 8 = ((n % 8 : Nat) : Int) := by rw [Int.tmod_eq_emod_of_nonneg (by omega)]; omega
theorem ilev_l0 : ∀ (g n x : Nat), n < g → 1 ≤ x → x + n ≤ 9223372036854775808 → Ev (fun k => image_Levels.l0 k (n : Int) (x : Int)) (((x + lvls g n - 1 : Nat)) : Int)
  | 0, _, _, h, _, _ => absurd h (by omega)
  | g + 1, n, x, hg, h1, h2 => by
    by_cases h8 : n ≤ 8
    · refine Ev.step (f := fun _ => some _) (fun k => ?_) (Ev.now _)
      simp only [image_Levels.l0]
      rw [if_neg (by omega)]
      simp only [lvls]
      rw [if_pos h8, Nat.add_sub_cancel]
    · have hp : nPart n < n := nPart_lt (by omega)
      have ih := ilev_l0 g (nPart n) (x + 1) (by omega) (by omega) (by omega)
      have e : lvls (g + 1) n = 1 + lvls g (nPart n) := by simp only [lvls]; rw [if_neg h8]
      rw [e, show x + (1 + lvls g (nPart n)) - 1 = x + 1 + lvls g (nPart n) - 1 by omega]
      refine Ev.step (fun k => ?_) ih
      have e1 : wrap64 ((n / 8 : Nat) : Int) = ((n / 8 : Nat) : Int) := IntWalk.wrap64_in ((n / 8 : Nat) : Int) (by omega)
      have e2 : mn 1 ((n % 8 : Nat) : Int) = ((nPart n - n / 8 : Nat) : Int) := by unfold mn nPart; split <;> omega
      have e3 : wrap64 (((n / 8 : Nat) : Int) + ((nPart n - n / 8 : Nat) : Int)) = ((nPart n : Nat) : Int) := by
        have h3 : n / 8 ≤ nPart n := by unfold nPart; omega
        rw [IntWalk.wrap64_in (((n / 8 : Nat) : Int) + ((nPart n - n / 8 : Nat) : Int)) (by omega)]
        omega
      have e4 : wrap64 ((x : Int) + 1) = ((x + 1 : Nat) : Int) := by rw [IntWalk.wrap64_in ((x : Int) + 1) (by omega)]; omega
      simp only [image_Levels.l0]
      rw [if_pos (show (n : Int) > 8 by omega), tdiv8, tmod8, e1, e2, e3, e4]
theorem rlev_l0 : ∀ (g n x : Nat), n < g → 1 ≤ x → x + n ≤ 9223372036854775808 → Ev (fun k => pumiceref10_Levels.l0 k (n : Int) (x : Int)) (((x + lvls g n - 1 : Nat)) : Int)
  | 0, _, _, h, _, _ => absurd h (by omega)
  | g + 1, n, x, hg, h1, h2 => by
    by_cases h8 : n ≤ 8
    · refine Ev.step (f := fun _ => some _) (fun k => ?_) (Ev.now _)
      simp only [pumiceref10_Levels.l0]
      rw [if_neg (by omega)]
      simp only [lvls]
      rw [if_pos h8, Nat.add_sub_cancel]
    · have hp : nPart n < n := nPart_lt (by omega)
      have ih := rlev_l0 g (nPart n) (x + 1) (by omega) (by omega) (by omega)
      have e : lvls (g + 1) n = 1 + lvls g (nPart n) := by simp only [lvls]; rw [if_neg h8]
      rw [e, show x + (1 + lvls g (nPart n)) - 1 = x + 1 + lvls g (nPart n) - 1 by omega]
      refine Ev.step (fun k => ?_) ih
      have e1 : wrap64 ((n / 8 : Nat) : Int) = ((n / 8 : Nat) : Int) := IntWalk.wrap64_in ((n / 8 : Nat) : Int) (by omega)
      have e4 : wrap64 ((x : Int) + 1) = ((x + 1 : Nat) : Int) := by rw [IntWalk.wrap64_in ((x : Int) + 1) (by omega)]; omega
      simp only [pumiceref10_Levels.l0]
      rw [if_pos (show (n : Int) > 8 by omega), tdiv8, tmod8, e1, e4]
      by_cases hm : n % 8 = 0
      · rw [if_neg (show ¬ (((n % 8 : Nat) : Int) > 0) by omega)]
        have e3 : wrap64 (((n / 8 : Nat) : Int) + 0) = ((nPart n : Nat) : Int) := by
          rw [IntWalk.wrap64_in (((n / 8 : Nat) : Int) + 0) (by omega)]
          unfold nPart
          omega
        rw [e3]
      · rw [if_pos (show (((n % 8 : Nat) : Int) > 0) by omega)]
        have e3 : wrap64 (((n / 8 : Nat) : Int) + 1) = ((nPart n : Nat) : Int) := by
          rw [IntWalk.wrap64_in (((n / 8 : Nat) : Int) + 1) (by omega)]
          unfold nPart
          omega
        rw [e3]
theorem lvls_pos (g n : Nat) : 1 ≤ lvls (g + 1) n := by simp only [lvls]; split <;> omega
theorem ilev_is (n : Int) (h : n ≤ 9223372036854775807) : ∃ K, image_Levels.f K n = some (levelsN n) := by
  unfold image_Levels.f levelsN
  by_cases h1 : n < 1
  · exact ⟨0, by rw [if_pos h1, if_pos h1]⟩
  · obtain ⟨m, rfl⟩ : ∃ m : Nat, n = (m : Int) := ⟨n.toNat, by omega⟩
    rw [Int.toNat_natCast]
    obtain ⟨K, hK⟩ := ilev_l0 (m + 1) m 1 (by omega) (by omega) (by omega)
    refine ⟨K, ?_⟩
    rw [if_neg h1, if_neg h1]
    have := hK K (Nat.le_refl _)
    rw [show 1 + lvls (m + 1) m - 1 = lvls (m + 1) m by omega] at this
    exact this
theorem rlev_is (n : Int) (h : n ≤ 9223372036854775807) : ∃ K, pumiceref10_Levels.f K n = some (levelsN n) := by
  unfold pumiceref10_Levels.f levelsN
  by_cases h1 : n < 1
  · exact ⟨0, by rw [if_pos h1, if_pos h1]⟩
  · obtain ⟨m, rfl⟩ : ∃ m : Nat, n = (m : Int) := ⟨n.toNat, by omega⟩
    rw [Int.toNat_natCast]
    obtain ⟨K, hK⟩ := rlev_l0 (m + 1) m 1 (by omega) (by omega) (by omega)
    refine ⟨K, ?_⟩
    rw [if_neg h1, if_neg h1]
    have := hK K (Nat.le_refl _)
    rw [show 1 + lvls (m + 1) m - 1 = lvls (m + 1) m by omega] at this
    exact this
end Go.Proofs.Ytpllpagbdmikpaa.PAll
