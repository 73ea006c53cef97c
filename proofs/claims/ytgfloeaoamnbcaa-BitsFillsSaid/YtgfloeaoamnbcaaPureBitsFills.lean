/- Filling keeps what is there and makes the rest blank: 'pumicelaw01.BitsFills' answers true; no conditions. -/
import Derived.Test.YtgfloeaoamnbcaaPBitsFillsx4
import Derived.Test.YtgfloeaoamnbcaaMath
namespace Go.Proofs.Ytgfloeaoamnbcaa.Pure
open Go.RowKit Go.Proofs.Ytgfloeaoamnbcaa.PBitsFills Go.Proofs.YtgfloeaoamnbcaaW.PrintWords Go.Proofs.YtgfloeaoamnbcaaW.PrintLast Go.Proofs.Ytgfloeaoamnbcaa.Plain
set_option linter.unusedVariables false
set_option linter.unusedSimpArgs false

theorem bBlank_l0 (l : List Int) (hn : l.length ≤ 9223372036854775806) : ∀ (d i : Nat), i + d = l.length → Ev (fun k => bits_Blank.l0 k l (l.length : Int) (i : Int)) (blankL (l.drop i))
  | 0, i, hi => by
    refine Ev.step (f := fun _ => some _) (fun k => ?_) (Ev.now _)
    simp only [bits_Blank.l0]
    rw [if_neg (by omega), List.drop_of_length_le (by omega)]; rfl
  | d + 1, i, hi => by
    have h2 := bBlank_l0 l hn d (i + 1) (by omega)
    have e5 : wrap64 ((i : Int) + 1) = ((i + 1 : Nat) : Int) := by rw [wrap64_of (by omega) (by omega)]; simp
    have ed : l.drop i = l[i]'(by omega) :: l.drop (i + 1) := by rw [List.getElem_cons_drop]
    by_cases hc : rd l (i : Int) = 255
    · have e : blankL (l.drop i) = blankL (l.drop (i + 1)) := by rw [ed]; rw [rd_at l i (by omega)] at hc; simp [blankL, hc]
      rw [e]
      refine Ev.step (fun k => ?_) h2
      simp only [bits_Blank.l0]
      rw [if_pos (by omega), if_pos (by omega), if_pos (by omega), if_pos hc, e5]
    · have e : blankL (l.drop i) = false := by rw [ed]; rw [rd_at l i (by omega)] at hc; simp only [blankL, List.all_cons]; simp [hc]
      rw [e]
      refine Ev.step (f := fun _ => some _) (fun k => ?_) (Ev.now _)
      simp only [bits_Blank.l0]
      rw [if_pos (by omega), if_pos (by omega), if_pos (by omega), if_neg hc]
theorem bBlank_ev (l : List Int) (hn : l.length ≤ 9223372036854775806) : Ev (fun k => bits_Blank.f k l) (blankL l) := bBlank_l0 l hn l.length 0 (by omega)

theorem bFill_l0 (l : List Int) (n : Nat) (hn : n ≤ 1048576) : ∀ (d i : Nat), i + d = n → min n l.length ≤ i → Ev (fun k => bits_Fill.l0 k (n : Int) (fillL l i)) (fillL l n)
  | 0, i, hi, _ => by
    refine Ev.step (f := fun _ => some _) (fun k => ?_) (Ev.now _)
    have hi2 : i = n := by omega
    subst hi2
    have e := fillL_length l i
    simp only [bits_Fill.l0]
    rw [if_neg (by omega)]
  | d + 1, i, hi, hm => by
    have h2 := bFill_l0 l n hn d (i + 1) (by omega) (by omega)
    refine Ev.step (fun k => ?_) h2
    have e := fillL_length l i
    have q1 : ((fillL l i).length : Int) < (n : Int) := by omega
    have q2 : (fillL l i).length < 140737488355328 := by omega
    simp only [bits_Fill.l0, eq_true q1, eq_true q2, if_true]
    rw [fillL_succ, if_neg (by omega)]
theorem bFill_ev (l : List Int) (n : Nat) (hn : n ≤ 1048576) : Ev (fun k => bits_Fill.f k l (n : Int)) (fillL l n) := by
  obtain ⟨K, h⟩ := bFill_l0 l n hn (n - min n l.length) (min n l.length) (by omega) (Nat.le_refl _)
  refine ⟨K, fun k hk => ?_⟩
  have e1 := h k hk
  simp only [] at e1
  have em : mn (n : Int) (l.length : Int) = ((min n l.length : Nat) : Int) := by unfold mn; split <;> omega
  have et : l.take (min n l.length) = fillL l (min n l.length) := by
    unfold fillL
    rw [show min n l.length - l.length = 0 by omega]; simp
  show bits_Fill.f k l (n : Int) = _
  unfold bits_Fill.f
  have q1 : ¬ (n : Int) < 0 := by omega
  have q2 : (0 : Int) ≤ ((min n l.length : Nat) : Int) := by omega
  have q3 : ((min n l.length : Nat) : Int) ≤ (l.length : Int) := by omega
  have q4 : (fillL l (min n l.length)).length < 140737488355328 := by have := fillL_length l (min n l.length); omega
  simp only [Option.bind_some, em, eq_false q1, eq_true q2, eq_true q3, if_true, if_false, Int.toNat_natCast, List.length_nil, Nat.zero_add, List.nil_append, et, eq_true q4, e1]
theorem bFill_neg (l : List Int) (n : Int) (hn : n < 0) : Ev (fun k => bits_Fill.f k l n) [] := by
  refine ⟨0, fun k _ => ?_⟩
  show bits_Fill.f k l n = _
  unfold bits_Fill.f
  rw [if_pos hn]

theorem nums_inj {a b : List Int} (ha : Bytes a) (hb : Bytes b) (h : (strOfNums a).toList = (strOfNums b).toList) : a = b := by
  have h2 : (a.map fun n => UInt8.ofNat n.toNat) = b.map fun n => UInt8.ofNat n.toNat := by
    have e : ∀ l : List Int, (strOfNums l).toList = l.map fun n => UInt8.ofNat n.toNat := fun l => by rw [ByteArray.toList_eq, strOfNums_data]
    rwa [e, e] at h
  have h3 := congrArg (List.map fun u : UInt8 => (u.toNat : Int)) h2
  rw [List.map_map, List.map_map] at h3
  have e : ∀ l : List Int, Bytes l → l.map ((fun u : UInt8 => (u.toNat : Int)) ∘ fun n : Int => UInt8.ofNat n.toNat) = l := by
    intro l hl
    conv => rhs; rw [← List.map_id l]
    refine List.map_congr_left (fun x hx => ?_)
    have := hl x hx
    simp [UInt8.toNat_ofNat']
    omega
  rwa [e a ha, e b hb] at h3
theorem same_refl (a : List Int) : pumicelaw01_Same.f a a = some true := by unfold pumicelaw01_Same.f; simp

theorem alive_ev : Ev (fun k => pumicelaw01_alive.f k) true := Ev.of (fun k => pumicelaw01_alive.mono k) alive_true

theorem BitsFills : pumicelaw01_BitsFills.Pure := by
  intro l n hm hn2 hw hs
  obtain ⟨K7, h7⟩ := alive_ev
  by_cases hbad : n < 0 ∨ 65536 < n
  · refine ⟨K7 + 1, ?_⟩
    have e7 := h7 K7 (by omega)
    simp only [] at e7
    unfold pumicelaw01_BitsFills.f
    by_cases h0 : n < 0
    · rw [if_pos h0]; simp only [pumicelaw01_BitsFills.j0, if_true, e7, Option.bind_some]
    · rw [if_neg h0, decide_eq_true (by omega)]; simp only [pumicelaw01_BitsFills.j0, if_true, e7, Option.bind_some]
  · obtain ⟨m, rfl⟩ : ∃ m : Nat, n = m := ⟨n.toNat, by omega⟩
    have em : mn (m : Int) (l.length : Int) = ((min m l.length : Nat) : Int) := by unfold mn; split <;> omega
    have ht : (fillL l m).take (min m l.length) = l.take (min m l.length) := by
      unfold fillL
      by_cases h : m ≤ l.length
      · rw [Nat.min_eq_left h, List.take_left' (by rw [List.length_take]; omega)]
      · rw [Nat.min_eq_right (by omega), List.take_of_length_le (show l.length ≤ m by omega), List.take_left' rfl, List.take_length]
    have hd : blankL ((fillL l m).drop (min m l.length)) = true := by
      unfold fillL
      rw [List.drop_left' (by rw [List.length_take]), blankL]
      simp
    obtain ⟨K1, h1⟩ := bFill_ev l m (by omega)
    obtain ⟨K2, h2⟩ := bBlank_ev ((fillL l m).drop (min m l.length)) (by rw [List.length_drop, fillL_length]; omega)
    refine ⟨K1 + K2 + K7 + 1, ?_⟩
    have e1 := h1 (K1 + K2 + K7) (by omega)
    have e2 := h2 (K1 + K2 + K7) (by omega)
    have e7 := h7 (K1 + K2 + K7) (by omega)
    simp only [hd] at e1 e2 e7
    have hfl := fillL_length l m
    have q1 : ((fillL l m).length : Int) = (m : Int) := by omega
    have q2 : (0 : Int) ≤ ((min m l.length : Nat) : Int) := by omega
    have q3 : ((min m l.length : Nat) : Int) ≤ (m : Int) := by omega
    have q4 : ((min m l.length : Nat) : Int) ≤ (l.length : Int) := by omega
    unfold pumicelaw01_BitsFills.f
    rw [if_neg (by omega), decide_eq_false (by omega)]
    simp only [pumicelaw01_BitsFills.j0, Bool.false_eq_true, if_false, e1, Option.bind_some, q1, if_true, em, eq_true q2, eq_true q3, eq_true q4, Int.toNat_natCast, ht, same_refl, e2, e7]
end Go.Proofs.Ytgfloeaoamnbcaa.Pure
