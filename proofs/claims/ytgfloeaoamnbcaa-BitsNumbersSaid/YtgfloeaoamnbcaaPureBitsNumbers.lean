/- Numbers become bytes and bytes numbers, and bytes are blank or filled, as by the document's reference: 'pumicelaw01.BitsNumbers' answers true; no conditions. -/
import Derived.Test.YtgfloeaoamnbcaaPBitsNumbersx4
import Derived.Test.YtgfloeaoamnbcaaMath
namespace Go.Proofs.Ytgfloeaoamnbcaa.Pure
open Go.RowKit Go.Proofs.Ytgfloeaoamnbcaa.PBitsNumbers Go.Proofs.YtgfloeaoamnbcaaW.PrintWords Go.Proofs.YtgfloeaoamnbcaaW.PrintLast Go.Proofs.Ytgfloeaoamnbcaa.Plain
set_option linter.unusedVariables false
set_option linter.unusedSimpArgs false

def clamp (b : Int) : Nat := if b < 0 then 0 else if 8 < b then 8 else b.toNat
theorem bPut_is (n b : Int) (hn : 0 ≤ n) : bits_Put.f n b = some (putL (clamp b) n) := by
  have hc : b < 0 ∨ b = 0 ∨ b = 1 ∨ b = 2 ∨ b = 3 ∨ b = 4 ∨ b = 5 ∨ b = 6 ∨ b = 7 ∨ b = 8 ∨ 8 < b := by omega
  rcases hc with hc | rfl | rfl | rfl | rfl | rfl | rfl | rfl | rfl | rfl | hc
  · have e0 : mn (mx b 0) 8 = 0 := by unfold mn mx; rw [if_pos hc]; rfl
    simp [bits_Put.f, e0, clamp, hc, putL]
  · simp [bits_Put.f, mn, mx, clamp, putL]
  · simp [bits_Put.f, mn, mx, clamp, putL, List.range_succ]
  · simp [bits_Put.f, mn, mx, clamp, putL, List.range_succ, List.replicate]
  · simp [bits_Put.f, mn, mx, clamp, putL, List.range_succ, List.replicate]
  · simp [bits_Put.f, mn, mx, clamp, putL, List.range_succ, List.replicate]
  · simp [bits_Put.f, mn, mx, clamp, putL, List.range_succ, List.replicate]
  · simp [bits_Put.f, mn, mx, clamp, putL, List.range_succ, List.replicate]
  · simp [bits_Put.f, mn, mx, clamp, putL, List.range_succ, List.replicate]
  · simp [bits_Put.f, mn, mx, clamp, putL, List.range_succ, List.replicate]
  · have e0 : mn (mx b 0) 8 = 8 := by unfold mn mx; rw [if_neg (by omega : ¬ b < 0), if_pos hc]
    have e1 : clamp b = 8 := by unfold clamp; rw [if_neg (by omega), if_pos hc]
    rw [e1]
    simp [bits_Put.f, e0, putL, List.range_succ, List.replicate]

theorem rPut_l0 (n b : Int) (hn : 0 ≤ n) : ∀ (d i : Nat), i + d = clamp b → Ev (fun k => pumiceref01_Put.l0 k n b (putL i n) (i : Int)) (putL (clamp b) n)
  | 0, i, hi => by
    refine Ev.step (f := fun _ => some _) (fun k => ?_) (Ev.now _)
    have hi2 : i = clamp b := by omega
    simp only [pumiceref01_Put.l0]
    rw [hi2]
    unfold clamp
    split
    · rw [if_neg (by omega)]
    · split
      · by_cases h : ((8 : Nat) : Int) < b
        · rw [if_pos h, if_neg (by omega)]
        · rw [if_neg h]
      · rw [if_neg (by omega)]
  | d + 1, i, hi => by
    have h2 := rPut_l0 n b hn d (i + 1) (by omega)
    have hlt : (i : Int) < b ∧ (i : Int) < 8 := by
      unfold clamp at hi
      split at hi
      · omega
      · split at hi <;> omega
    refine Ev.step (fun k => ?_) h2
    simp only [pumiceref01_Put.l0]
    have e1 : wrap64 (8 * (i : Int)) = 8 * (i : Int) := wrap64_of (by omega) (by omega)
    have e2 : IntKind.u64.wrap (8 * (i : Int)) = 8 * (i : Int) := wrapU64_of (by omega) (by omega)
    have e3 : min (8 * (i : Int)).toNat IntKind.u64.bits = 8 * i := by simp only [IntKind.bits]; omega
    have e5 : wrap64 ((i : Int) + 1) = ((i + 1 : Nat) : Int) := by rw [wrap64_of (by omega) (by omega)]; simp
    have q1 : (0 : Int) ≤ 8 * (i : Int) := by omega
    have q2 : (putL i n).length < 140737488355328 := by have := putL_length i n; omega
    simp only [e1, e2, e5, eq_true hlt.1, eq_true hlt.2, eq_true q1, eq_true q2, if_true]
    rw [putL_succ]
    unfold shr
    rw [e3, pow_is i (by omega)]
theorem rPut_ev (n b : Int) (hn : 0 ≤ n) : Ev (fun k => pumiceref01_Put.f k n b) (putL (clamp b) n) := rPut_l0 n b hn (clamp b) 0 (by omega)

theorem bGet_l0 (l : List Int) (hl : Bytes l) : ∀ (d i : Nat), i + d = min l.length 8 → Ev (fun k => bits_Get.l0 k l (getN l i) (mn (l.length : Int) 8) (i : Int)) (getL l)
  | 0, i, hi => by
    refine Ev.step (f := fun _ => some _) (fun k => ?_) (Ev.now _)
    have hi2 : i = min l.length 8 := by omega
    simp only [bits_Get.l0]
    rw [if_neg (by unfold mn; split <;> omega)]
    unfold getL
    rw [hi2]
  | d + 1, i, hi => by
    have h2 := bGet_l0 l hl d (i + 1) (by omega)
    refine Ev.step (fun k => ?_) h2
    simp only [bits_Get.l0]
    have hb := rd_lt l hl i
    have e1 : wrap64 (8 * (i : Int)) = 8 * (i : Int) := wrap64_of (by omega) (by omega)
    have e5 : wrap64 ((i : Int) + 1) = ((i + 1 : Nat) : Int) := by rw [wrap64_of (by omega) (by omega)]; simp
    rw [if_pos (by unfold mn; split <;> omega), if_pos (by omega), if_pos (by omega), e1, if_pos (by omega), e5, or64 i (by omega) (getN_bd hl i (by omega)) hb]
    rfl
theorem bGet_ev (l : List Int) (hl : Bytes l) : Ev (fun k => bits_Get.f k l) (getL l) := bGet_l0 l hl (min l.length 8) 0 (by omega)

theorem rGet_l0 (l : List Int) (hl : Bytes l) : ∀ (d i : Nat), i + d = min l.length 8 → Ev (fun k => pumiceref01_Get.l0 k l (getN l i) (i : Int)) (getL l)
  | 0, i, hi => by
    refine Ev.step (f := fun _ => some _) (fun k => ?_) (Ev.now _)
    have hi2 : i = min l.length 8 := by omega
    simp only [pumiceref01_Get.l0]
    have e : getL l = getN l i := by unfold getL; rw [hi2]
    rw [e]
    by_cases h : (i : Int) < (l.length : Int)
    · rw [if_pos h, if_neg (by omega)]
    · rw [if_neg h]
  | d + 1, i, hi => by
    have h2 := rGet_l0 l hl d (i + 1) (by omega)
    refine Ev.step (fun k => ?_) h2
    simp only [pumiceref01_Get.l0]
    have hb := rd_lt l hl i
    have e1 : wrap64 (8 * (i : Int)) = 8 * (i : Int) := wrap64_of (by omega) (by omega)
    have e2 : IntKind.u64.wrap (8 * (i : Int)) = 8 * (i : Int) := wrapU64_of (by omega) (by omega)
    have e5 : wrap64 ((i : Int) + 1) = ((i + 1 : Nat) : Int) := by rw [wrap64_of (by omega) (by omega)]; simp
    rw [if_pos (by omega), if_pos (by omega), if_pos (by omega), e1, e2, if_pos (by omega), e5, or64 i (by omega) (getN_bd hl i (by omega)) hb]
    rfl
theorem rGet_ev (l : List Int) (hl : Bytes l) : Ev (fun k => pumiceref01_Get.f k l) (getL l) := rGet_l0 l hl (min l.length 8) 0 (by omega)

theorem bBlank_l0 (l : List Int) (hn : l.length ≤ 9223372036854775806) : ∀ (d i : Nat), i + d = l.length → Ev (fun k => bits_Blank.l0 k l (l.length : Int) (i : Int)) (blankL (l.drop i))
  | 0, i, hi => by
    refine Ev.step (f := fun _ => some _) (fun k => ?_) (Ev.now _)
    simp only [bits_Blank.l0]
    rw [if_neg (by omega), List.drop_of_length_le (by omega)]; rfl
  | d + 1, i, hi => by
    have h2 := bBlank_l0 l hn d (i + 1) (by omega)
    have e5 : wrap64 ((i : Int) + 1) = ((i + 1 : Nat) : Int) := by rw [wrap64_of (by omega) (by omega)]; simp
    have ed : l.drop i = l[i]'(by omega) :: l.drop (i + 1) := by rw [List.getElem_cons_drop]
    by_cases hc : rd l (i : Int) = 255
    · have e : blankL (l.drop i) = blankL (l.drop (i + 1)) := by rw [ed]; rw [rd_at l i (by omega)] at hc; simp [blankL, hc]
      rw [e]
      refine Ev.step (fun k => ?_) h2
      simp only [bits_Blank.l0]
      rw [if_pos (by omega), if_pos (by omega), if_pos (by omega), if_pos hc, e5]
    · have e : blankL (l.drop i) = false := by rw [ed]; rw [rd_at l i (by omega)] at hc; simp only [blankL, List.all_cons]; simp [hc]
      rw [e]
      refine Ev.step (f := fun _ => some _) (fun k => ?_) (Ev.now _)
      simp only [bits_Blank.l0]
      rw [if_pos (by omega), if_pos (by omega), if_pos (by omega), if_neg hc]
theorem bBlank_ev (l : List Int) (hn : l.length ≤ 9223372036854775806) : Ev (fun k => bits_Blank.f k l) (blankL l) := bBlank_l0 l hn l.length 0 (by omega)

theorem rBlank_l0 (l : List Int) (hn : l.length ≤ 9223372036854775806) : ∀ (d i : Nat), i + d = l.length → Ev (fun k => pumiceref01_Blank.l0 k l (i : Int)) (blankL (l.drop i))
  | 0, i, hi => by
    refine Ev.step (f := fun _ => some _) (fun k => ?_) (Ev.now _)
    simp only [pumiceref01_Blank.l0]
    rw [if_neg (by omega), List.drop_of_length_le (by omega)]; rfl
  | d + 1, i, hi => by
    have h2 := rBlank_l0 l hn d (i + 1) (by omega)
    have e5 : wrap64 ((i : Int) + 1) = ((i + 1 : Nat) : Int) := by rw [wrap64_of (by omega) (by omega)]; simp
    have ed : l.drop i = l[i]'(by omega) :: l.drop (i + 1) := by rw [List.getElem_cons_drop]
    by_cases hc : rd l (i : Int) = 255
    · have e : blankL (l.drop i) = blankL (l.drop (i + 1)) := by rw [ed]; rw [rd_at l i (by omega)] at hc; simp [blankL, hc]
      rw [e]
      refine Ev.step (fun k => ?_) h2
      simp only [pumiceref01_Blank.l0]
      rw [if_pos (by omega), if_pos (by omega), if_pos hc, e5]
    · have e : blankL (l.drop i) = false := by rw [ed]; rw [rd_at l i (by omega)] at hc; simp only [blankL, List.all_cons]; simp [hc]
      rw [e]
      refine Ev.step (f := fun _ => some _) (fun k => ?_) (Ev.now _)
      simp only [pumiceref01_Blank.l0]
      rw [if_pos (by omega), if_pos (by omega), if_neg hc]
theorem rBlank_ev (l : List Int) (hn : l.length ≤ 9223372036854775806) : Ev (fun k => pumiceref01_Blank.f k l) (blankL l) := rBlank_l0 l hn l.length 0 (by omega)

theorem bFill_l0 (l : List Int) (n : Nat) (hn : n ≤ 1048576) : ∀ (d i : Nat), i + d = n → min n l.length ≤ i → Ev (fun k => bits_Fill.l0 k (n : Int) (fillL l i)) (fillL l n)
  | 0, i, hi, _ => by
    refine Ev.step (f := fun _ => some _) (fun k => ?_) (Ev.now _)
    have hi2 : i = n := by omega
    subst hi2
    have e := fillL_length l i
    simp only [bits_Fill.l0]
    rw [if_neg (by omega)]
  | d + 1, i, hi, hm => by
    have h2 := bFill_l0 l n hn d (i + 1) (by omega) (by omega)
    refine Ev.step (fun k => ?_) h2
    have e := fillL_length l i
    have q1 : ((fillL l i).length : Int) < (n : Int) := by omega
    have q2 : (fillL l i).length < 140737488355328 := by omega
    simp only [bits_Fill.l0, eq_true q1, eq_true q2, if_true]
    rw [fillL_succ, if_neg (by omega)]
theorem bFill_ev (l : List Int) (n : Nat) (hn : n ≤ 1048576) : Ev (fun k => bits_Fill.f k l (n : Int)) (fillL l n) := by
  obtain ⟨K, h⟩ := bFill_l0 l n hn (n - min n l.length) (min n l.length) (by omega) (Nat.le_refl _)
  refine ⟨K, fun k hk => ?_⟩
  have e1 := h k hk
  simp only [] at e1
  have em : mn (n : Int) (l.length : Int) = ((min n l.length : Nat) : Int) := by unfold mn; split <;> omega
  have et : l.take (min n l.length) = fillL l (min n l.length) := by
    unfold fillL
    rw [show min n l.length - l.length = 0 by omega]; simp
  show bits_Fill.f k l (n : Int) = _
  unfold bits_Fill.f
  have q1 : ¬ (n : Int) < 0 := by omega
  have q2 : (0 : Int) ≤ ((min n l.length : Nat) : Int) := by omega
  have q3 : ((min n l.length : Nat) : Int) ≤ (l.length : Int) := by omega
  have q4 : (fillL l (min n l.length)).length < 140737488355328 := by have := fillL_length l (min n l.length); omega
  simp only [Option.bind_some, em, eq_false q1, eq_true q2, eq_true q3, if_true, if_false, Int.toNat_natCast, List.length_nil, Nat.zero_add, List.nil_append, et, eq_true q4, e1]
theorem bFill_neg (l : List Int) (n : Int) (hn : n < 0) : Ev (fun k => bits_Fill.f k l n) [] := by
  refine ⟨0, fun k _ => ?_⟩
  show bits_Fill.f k l n = _
  unfold bits_Fill.f
  rw [if_pos hn]

theorem rFill_l0 (l : List Int) (n : Nat) (hn : n ≤ 1048576) : ∀ (d i : Nat), i + d = n → Ev (fun k => pumiceref01_Fill.l0 k l (n : Int) (fillL l i) (i : Int)) (fillL l n)
  | 0, i, hi => by
    refine Ev.step (f := fun _ => some _) (fun k => ?_) (Ev.now _)
    have hi2 : i = n := by omega
    subst hi2
    simp only [pumiceref01_Fill.l0]
    rw [if_neg (by omega)]
  | d + 1, i, hi => by
    have h2 := rFill_l0 l n hn d (i + 1) (by omega)
    refine Ev.step (fun k => ?_) h2
    have e := fillL_length l i
    have e5 : wrap64 ((i : Int) + 1) = ((i + 1 : Nat) : Int) := by rw [wrap64_of (by omega) (by omega)]; simp
    have q1 : (i : Int) < (n : Int) := by omega
    have q2 : (fillL l i).length < 140737488355328 := by omega
    have q3 : (0 : Int) ≤ (i : Int) := by omega
    by_cases hc : i < l.length
    · have q4 : (i : Int) < (l.length : Int) := by omega
      simp only [pumiceref01_Fill.l0, eq_true q1, eq_true q2, eq_true q3, eq_true q4, if_true, e5]
      rw [fillL_succ, if_pos hc]
    · have q4 : ¬ (i : Int) < (l.length : Int) := by omega
      simp only [pumiceref01_Fill.l0, eq_true q1, eq_true q2, eq_false q4, if_true, if_false, e5]
      rw [fillL_succ, if_neg hc]
theorem rFill_ev (l : List Int) (n : Nat) (hn : n ≤ 1048576) : Ev (fun k => pumiceref01_Fill.f k l (n : Int)) (fillL l n) := by
  have h := rFill_l0 l n hn n 0 (by omega)
  simp [fillL] at h ⊢
  exact h
theorem rFill_neg (l : List Int) (n : Int) (hn : n < 0) : Ev (fun k => pumiceref01_Fill.f k l n) [] := by
  refine Ev.step (f := fun _ => some _) (fun k => ?_) (Ev.now _)
  unfold pumiceref01_Fill.f
  simp only [pumiceref01_Fill.l0]
  rw [if_neg (by omega)]

theorem nums_inj {a b : List Int} (ha : Bytes a) (hb : Bytes b) (h : (strOfNums a).toList = (strOfNums b).toList) : a = b := by
  have h2 : (a.map fun n => UInt8.ofNat n.toNat) = b.map fun n => UInt8.ofNat n.toNat := by
    have e : ∀ l : List Int, (strOfNums l).toList = l.map fun n => UInt8.ofNat n.toNat := fun l => by rw [ByteArray.toList_eq, strOfNums_data]
    rwa [e, e] at h
  have h3 := congrArg (List.map fun u : UInt8 => (u.toNat : Int)) h2
  rw [List.map_map, List.map_map] at h3
  have e : ∀ l : List Int, Bytes l → l.map ((fun u : UInt8 => (u.toNat : Int)) ∘ fun n : Int => UInt8.ofNat n.toNat) = l := by
    intro l hl
    conv => rhs; rw [← List.map_id l]
    refine List.map_congr_left (fun x hx => ?_)
    have := hl x hx
    simp [UInt8.toNat_ofNat']
    omega
  rwa [e a ha, e b hb] at h3
theorem same_refl (a : List Int) : pumicelaw01_Same.f a a = some true := by unfold pumicelaw01_Same.f; simp

theorem alive_ev : Ev (fun k => pumicelaw01_alive.f k) true := Ev.of (fun k => pumicelaw01_alive.mono k) alive_true

theorem numbers_j0 (n b : Int) (l : List Int) (size : Int) (hn : 0 ≤ n) (hl : Bytes l) (hm : l.length ≤ 140737488351232) (hs : size ≤ 1048576) : Ev (fun k => pumicelaw01_BitsNumbers.j0 k n b l size) true := by
  obtain ⟨K1, h1⟩ := rPut_ev n b hn
  obtain ⟨K2, h2⟩ := bGet_ev l hl
  obtain ⟨K3, h3⟩ := rGet_ev l hl
  obtain ⟨K4, h4⟩ := bBlank_ev l (by omega)
  obtain ⟨K5, h5⟩ := rBlank_ev l (by omega)
  have hfill : ∃ r, Ev (fun k => bits_Fill.f k l size) r ∧ Ev (fun k => pumiceref01_Fill.f k l size) r := by
    by_cases h0 : size < 0
    · exact ⟨[], bFill_neg l size h0, rFill_neg l size h0⟩
    · obtain ⟨m, rfl⟩ : ∃ m : Nat, size = m := ⟨size.toNat, by omega⟩
      exact ⟨_, bFill_ev l m (by omega), rFill_ev l m (by omega)⟩
  obtain ⟨r, ⟨K6, h6⟩, ⟨K8, h8⟩⟩ := hfill
  obtain ⟨K7, h7⟩ := alive_ev
  refine ⟨K1 + K2 + K3 + K4 + K5 + K6 + K7 + K8 + 1, fun k hk => ?_⟩
  obtain ⟨k, rfl⟩ : ∃ m, k = m + 1 := ⟨k - 1, by omega⟩
  have e1 := h1 k (by omega)
  have e2 := h2 k (by omega)
  have e3 := h3 k (by omega)
  have e4 := h4 k (by omega)
  have e5 := h5 k (by omega)
  have e6 := h6 k (by omega)
  have e7 := h7 k (by omega)
  have e8 := h8 k (by omega)
  simp only [] at e1 e2 e3 e4 e5 e6 e7 e8
  simp only [pumicelaw01_BitsNumbers.j0, bPut_is n b hn, e1, e2, e3, e4, e5, e6, e7, e8, Option.bind_some, same_refl, if_true, beq_self_eq_true]
theorem BitsNumbers : pumicelaw01_BitsNumbers.Pure := by
  intro n b l size unit hn hb hm hn2 hw hs hu
  have hn3 : 0 ≤ n := by
    simp [Lit.wf, IntKind.min, IntKind.max, IntKind.signed, IntKind.bits] at hn; omega
  unfold pumicelaw01_BitsNumbers.f
  by_cases h : size > 1048576
  · obtain ⟨K, hk⟩ := numbers_j0 n b l 1048576 hn3 (bytes_of hw) (by omega) (by omega)
    exact ⟨K, by rw [if_pos h]; exact hk K (Nat.le_refl _)⟩
  · obtain ⟨K, hk⟩ := numbers_j0 n b l size hn3 (bytes_of hw) (by omega) (by omega)
    exact ⟨K, by rw [if_neg h]; exact hk K (Nat.le_refl _)⟩
end Go.Proofs.Ytgfloeaoamnbcaa.Pure
