/- What was put into any number of bytes from 0 to 8 is got again, as far as the bytes go: 'pumicelaw01.BitsGet' answers true; no conditions. -/
import Derived.Test.YtgfloeaoamnbcaaPBitsGetx3
import Derived.Test.YtgfloeaoamnbcaaMath
namespace Go.Proofs.Ytgfloeaoamnbcaa.Pure
open Go.RowKit Go.Proofs.Ytgfloeaoamnbcaa.PBitsGet Go.Proofs.YtgfloeaoamnbcaaW.PrintWords Go.Proofs.YtgfloeaoamnbcaaW.PrintLast Go.Proofs.Ytgfloeaoamnbcaa.Plain
set_option linter.unusedVariables false
set_option linter.unusedSimpArgs false

def clamp (b : Int) : Nat := if b < 0 then 0 else if 8 < b then 8 else b.toNat
theorem bPut_is (n b : Int) (hn : 0 ≤ n) : bits_Put.f n b = some (putL (clamp b) n) := by
  have hc : b < 0 ∨ b = 0 ∨ b = 1 ∨ b = 2 ∨ b = 3 ∨ b = 4 ∨ b = 5 ∨ b = 6 ∨ b = 7 ∨ b = 8 ∨ 8 < b := by omega
  rcases hc with hc | rfl | rfl | rfl | rfl | rfl | rfl | rfl | rfl | rfl | hc
  · have e0 : mn (mx b 0) 8 = 0 := by unfold mn mx; rw [if_pos hc]; rfl
    simp [bits_Put.f, e0, clamp, hc, putL]
  · simp [bits_Put.f, mn, mx, clamp, putL]
  · simp [bits_Put.f, mn, mx, clamp, putL, List.range_succ]
  · simp [bits_Put.f, mn, mx, clamp, putL, List.range_succ, List.replicate]
  · simp [bits_Put.f, mn, mx, clamp, putL, List.range_succ, List.replicate]
  · simp [bits_Put.f, mn, mx, clamp, putL, List.range_succ, List.replicate]
  · simp [bits_Put.f, mn, mx, clamp, putL, List.range_succ, List.replicate]
  · simp [bits_Put.f, mn, mx, clamp, putL, List.range_succ, List.replicate]
  · simp [bits_Put.f, mn, mx, clamp, putL, List.range_succ, List.replicate]
  · simp [bits_Put.f, mn, mx, clamp, putL, List.range_succ, List.replicate]
  · have e0 : mn (mx b 0) 8 = 8 := by unfold mn mx; rw [if_neg (by omega : ¬ b < 0), if_pos hc]
    have e1 : clamp b = 8 := by unfold clamp; rw [if_neg (by omega), if_pos hc]
    rw [e1]
    simp [bits_Put.f, e0, putL, List.range_succ, List.replicate]

theorem bGet_l0 (l : List Int) (hl : Bytes l) : ∀ (d i : Nat), i + d = min l.length 8 → Ev (fun k => bits_Get.l0 k l (getN l i) (mn (l.length : Int) 8) (i : Int)) (getL l)
  | 0, i, hi => by
    refine Ev.step (f := fun _ => some _) (fun k => ?_) (Ev.now _)
    have hi2 : i = min l.length 8 := by omega
    simp only [bits_Get.l0]
    rw [if_neg (by unfold mn; split <;> omega)]
    unfold getL
    rw [hi2]
  | d + 1, i, hi => by
    have h2 := bGet_l0 l hl d (i + 1) (by omega)
    refine Ev.step (fun k => ?_) h2
    simp only [bits_Get.l0]
    have hb := rd_lt l hl i
    have e1 : wrap64 (8 * (i : Int)) = 8 * (i : Int) := wrap64_of (by omega) (by omega)
    have e5 : wrap64 ((i : Int) + 1) = ((i + 1 : Nat) : Int) := by rw [wrap64_of (by omega) (by omega)]; simp
    rw [if_pos (by unfold mn; split <;> omega), if_pos (by omega), if_pos (by omega), e1, if_pos (by omega), e5, or64 i (by omega) (getN_bd hl i (by omega)) hb]
    rfl
theorem bGet_ev (l : List Int) (hl : Bytes l) : Ev (fun k => bits_Get.f k l) (getL l) := bGet_l0 l hl (min l.length 8) 0 (by omega)

theorem nums_inj {a b : List Int} (ha : Bytes a) (hb : Bytes b) (h : (strOfNums a).toList = (strOfNums b).toList) : a = b := by
  have h2 : (a.map fun n => UInt8.ofNat n.toNat) = b.map fun n => UInt8.ofNat n.toNat := by
    have e : ∀ l : List Int, (strOfNums l).toList = l.map fun n => UInt8.ofNat n.toNat := fun l => by rw [ByteArray.toList_eq, strOfNums_data]
    rwa [e, e] at h
  have h3 := congrArg (List.map fun u : UInt8 => (u.toNat : Int)) h2
  rw [List.map_map, List.map_map] at h3
  have e : ∀ l : List Int, Bytes l → l.map ((fun u : UInt8 => (u.toNat : Int)) ∘ fun n : Int => UInt8.ofNat n.toNat) = l := by
    intro l hl
    conv => rhs; rw [← List.map_id l]
    refine List.map_congr_left (fun x hx => ?_)
    have := hl x hx
    simp [UInt8.toNat_ofNat']
    omega
  rwa [e a ha, e b hb] at h3
theorem same_refl (a : List Int) : pumicelaw01_Same.f a a = some true := by unfold pumicelaw01_Same.f; simp

theorem alive_ev : Ev (fun k => pumicelaw01_alive.f k) true := Ev.of (fun k => pumicelaw01_alive.mono k) alive_true

theorem BitsGet : pumicelaw01_BitsGet.Pure := by
  intro n b hn hb
  have hn2 : 0 ≤ n ∧ n < 18446744073709551616 := by
    simp [Lit.wf, IntKind.min, IntKind.max, IntKind.signed, IntKind.bits] at hn; omega
  obtain ⟨K7, h7⟩ := alive_ev
  by_cases ho : b < 0 ∨ 8 < b
  · refine ⟨K7 + 1, ?_⟩
    have e7 := h7 K7 (by omega)
    simp only [] at e7
    unfold pumicelaw01_BitsGet.f
    by_cases h0 : b < 0
    · rw [if_pos h0]; simp only [pumicelaw01_BitsGet.j0, if_true, e7, Option.bind_some]
    · rw [if_neg h0, decide_eq_true (by omega)]; simp only [pumicelaw01_BitsGet.j0, if_true, e7, Option.bind_some]
  · obtain ⟨m, rfl⟩ : ∃ m : Nat, b = m := ⟨b.toNat, by omega⟩
    have hc : clamp (m : Int) = m := by unfold clamp; rw [if_neg (by omega), if_neg (by omega)]; omega
    have hp := bPut_is n (m : Int) hn2.1
    rw [hc] at hp
    have hby := Bytes.putL m n
    obtain ⟨K2, h2⟩ := bGet_ev (putL m n) hby
    refine ⟨K2 + K7 + 1, ?_⟩
    have e2 := h2 (K2 + K7) (by omega)
    have e7 := h7 (K2 + K7) (by omega)
    simp only [] at e2 e7
    rw [getL_putL n m (by omega)] at e2
    unfold pumicelaw01_BitsGet.f
    rw [if_neg (by omega), decide_eq_false (by omega)]
    simp only [pumicelaw01_BitsGet.j0, Bool.false_eq_true, if_false, hp, Option.bind_some, e2, e7, putL_length, if_true]
    by_cases h8 : m = 8
    · subst h8
      rw [if_neg (by omega), if_pos (by omega)]
    · have e1 : wrap64 (8 * (m : Int)) = 8 * (m : Int) := wrap64_of (by omega) (by omega)
      have e3 : IntKind.u64.wrap (8 * (m : Int)) = 8 * (m : Int) := wrapU64_of (by omega) (by omega)
      rw [if_pos (by omega), e1, e3, if_pos (by omega), if_pos]
      have e4 : IntKind.u64.wrap (shl .u64 1 (8 * (m : Int)) - 1) = 256 ^ m - 1 := by
        have hk2 : m = 0 ∨ m = 1 ∨ m = 2 ∨ m = 3 ∨ m = 4 ∨ m = 5 ∨ m = 6 ∨ m = 7 := by omega
        rcases hk2 with rfl | rfl | rfl | rfl | rfl | rfl | rfl | rfl <;> rfl
      rw [e4, mask64 hn2 m (by omega)]
end Go.Proofs.Ytgfloeaoamnbcaa.Pure
