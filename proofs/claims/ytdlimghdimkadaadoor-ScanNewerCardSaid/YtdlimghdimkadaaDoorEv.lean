/- The bits functions' plain answers. -/
import Derived.Test.YtdlimghdimkadaaDoorPAllx1
import Derived.Test.YtdlimghdimkadaaDoorPAllx2
import Derived.Test.YtdlimghdimkadaaDoorPAllx3
import Derived.Test.YtdlimghdimkadaaDoorPAllx4
import Derived.Test.YtdlimghdimkadaaDoorMath
namespace Go.Proofs.YtdlimghdimkadaaDoor.PAll
open Go.RowKit Go.Proofs.YtdlimghdimkadaaDoorW.PrintWords Go.Proofs.YtdlimghdimkadaaDoorW.PrintLast Go.Proofs.YtdlimghdimkadaaDoor.Plain
set_option linter.unusedVariables false
set_option linter.unusedSimpArgs false
def clamp (b : Int) : Nat := if b < 0 then 0 else if 8 < b then 8 else b.toNat

theorem bSum_l1 (l : List Int) (n i r : Int) : ∀ (d : Nat) (s : BitVec 32) (j : Int), j + d = 8 → 0 ≤ j →
    Ev (fun k => bits_Sum.l0 k ((steps d s).toNat : Int) l n (wrap64 (i + 1))) r → Ev (fun k => bits_Sum.l1 k (s.toNat : Int) l n i j) r
  | 0, s, j, hd, hj, h => Ev.step (fun k => by simp only [bits_Sum.l1]; rw [if_neg (by omega)]; rfl) h
  | d + 1, s, j, hd, hj, h => by
    have h2 := bSum_l1 l n i r d (crcStep s) (j + 1) (by omega) (by omega) h
    refine Ev.step (fun k => ?_) h2
    simp only [bits_Sum.l1]
    rw [if_pos (by omega), wrap64_of (by omega) (by omega)]
    by_cases hb : s.getLsbD 0 = true
    · rw [if_pos ((odd32 s).2 hb), half32, poly32, xor32]; unfold crcStep; rw [if_pos hb]
    · rw [if_neg (fun h => hb ((odd32 s).1 h)), half32]; unfold crcStep; rw [if_neg hb]
theorem bSum_l0 (l : List Int) (hl : Bytes l) (hn : l.length ≤ 9223372036854775806) : ∀ (d i : Nat) (s : BitVec 32), i + d = l.length →
    Ev (fun k => bits_Sum.l0 k (s.toNat : Int) l (l.length : Int) (i : Int)) (((0xFFFFFFFF#32 ^^^ (l.drop i).foldl feed s).toNat : Nat) : Int)
  | 0, i, s, hi => by
    refine Ev.step (f := fun _ => some _) (fun k => ?_) (Ev.now _)
    simp only [bits_Sum.l0]
    rw [if_neg (by omega), ones32, xor32, List.drop_of_length_le (by omega)]; rfl
  | d + 1, i, s, hi => by
    have h2 := bSum_l0 l hl hn d (i + 1) (feed s (l[i]'(by omega))) (by omega)
    rw [← List.foldl_cons, List.getElem_cons_drop] at h2
    have hw : wrap64 ((i : Int) + 1) = ((i + 1 : Nat) : Int) := by rw [wrap64_of (by omega) (by omega)]; simp
    rw [← hw] at h2
    have h3 := bSum_l1 l (l.length : Int) (i : Int) _ 8 (s ^^^ BitVec.ofInt 32 (l[i]'(by omega))) 0 (by omega) (by omega) h2
    refine Ev.step (fun k => ?_) h3
    simp only [bits_Sum.l0]
    rw [if_pos (by omega), if_pos (by omega), if_pos (by omega), rd_at l i (by omega), byte32, xor32]
theorem bSum_ev (l : List Int) (hl : Bytes l) (hn : l.length ≤ 9223372036854775806) : Ev (fun k => bits_Sum.f k l) (((crc l).toNat : Nat) : Int) :=
  bSum_l0 l hl hn l.length 0 0xFFFFFFFF#32 (by omega)

theorem rSum_l1 (l : List Int) (i r : Int) : ∀ (d : Nat) (s : BitVec 32) (j : Int), j + d = 8 → 0 ≤ j →
    Ev (fun k => pumiceref01_Sum.l0 k l ((steps d s).toNat : Int) (wrap64 (i + 1))) r → Ev (fun k => pumiceref01_Sum.l1 k l (s.toNat : Int) i j) r
  | 0, s, j, hd, hj, h => Ev.step (fun k => by simp only [pumiceref01_Sum.l1]; rw [if_neg (by omega)]; rfl) h
  | d + 1, s, j, hd, hj, h => by
    have h2 := rSum_l1 l i r d (crcStep s) (j + 1) (by omega) (by omega) h
    refine Ev.step (fun k => ?_) h2
    simp only [pumiceref01_Sum.l1]
    rw [if_pos (by omega), wrap64_of (by omega) (by omega)]
    by_cases hb : s.getLsbD 0 = true
    · rw [if_pos ((odd32 s).2 hb), half32, poly32, xor32]; unfold crcStep; rw [if_pos hb]
    · rw [if_neg (fun h => hb ((odd32 s).1 h)), half32]; unfold crcStep; rw [if_neg hb]
theorem rSum_l0 (l : List Int) (hl : Bytes l) (hn : l.length ≤ 9223372036854775806) : ∀ (d i : Nat) (s : BitVec 32), i + d = l.length →
    Ev (fun k => pumiceref01_Sum.l0 k l (s.toNat : Int) (i : Int)) (((0xFFFFFFFF#32 ^^^ (l.drop i).foldl feed s).toNat : Nat) : Int)
  | 0, i, s, hi => by
    refine Ev.step (f := fun _ => some _) (fun k => ?_) (Ev.now _)
    simp only [pumiceref01_Sum.l0]
    rw [if_neg (by omega), ones32, xor32, List.drop_of_length_le (by omega)]; rfl
  | d + 1, i, s, hi => by
    have h2 := rSum_l0 l hl hn d (i + 1) (feed s (l[i]'(by omega))) (by omega)
    rw [← List.foldl_cons, List.getElem_cons_drop] at h2
    have hw : wrap64 ((i : Int) + 1) = ((i + 1 : Nat) : Int) := by rw [wrap64_of (by omega) (by omega)]; simp
    rw [← hw] at h2
    have h3 := rSum_l1 l (i : Int) _ 8 (s ^^^ BitVec.ofInt 32 (l[i]'(by omega))) 0 (by omega) (by omega) h2
    refine Ev.step (fun k => ?_) h3
    simp only [pumiceref01_Sum.l0]
    rw [if_pos (by omega), if_pos (by omega), rd_at l i (by omega), byte32, xor32]
theorem rSum_ev (l : List Int) (hl : Bytes l) (hn : l.length ≤ 9223372036854775806) : Ev (fun k => pumiceref01_Sum.f k l) (((crc l).toNat : Nat) : Int) :=
  rSum_l0 l hl hn l.length 0 0xFFFFFFFF#32 (by omega)

theorem rPut_l0 (n b : Int) (hn : 0 ≤ n) : ∀ (d i : Nat), i + d = clamp b → Ev (fun k => pumiceref01_Put.l0 k n b (putL i n) (i : Int)) (putL (clamp b) n)
  | 0, i, hi => by
    refine Ev.step (f := fun _ => some _) (fun k => ?_) (Ev.now _)
    have hi2 : i = clamp b := by omega
    simp only [pumiceref01_Put.l0]
    rw [hi2]
    unfold clamp
    split
    · rw [if_neg (by omega)]
    · split
      · by_cases h : ((8 : Nat) : Int) < b
        · rw [if_pos h, if_neg (by omega)]
        · rw [if_neg h]
      · rw [if_neg (by omega)]
  | d + 1, i, hi => by
    have h2 := rPut_l0 n b hn d (i + 1) (by omega)
    have hlt : (i : Int) < b ∧ (i : Int) < 8 := by
      unfold clamp at hi
      split at hi
      · omega
      · split at hi <;> omega
    refine Ev.step (fun k => ?_) h2
    simp only [pumiceref01_Put.l0]
    have e1 : wrap64 (8 * (i : Int)) = 8 * (i : Int) := wrap64_of (by omega) (by omega)
    have e2 : IntKind.u64.wrap (8 * (i : Int)) = 8 * (i : Int) := wrapU64_of (by omega) (by omega)
    have e3 : min (8 * (i : Int)).toNat IntKind.u64.bits = 8 * i := by simp only [IntKind.bits]; omega
    have e5 : wrap64 ((i : Int) + 1) = ((i + 1 : Nat) : Int) := by rw [wrap64_of (by omega) (by omega)]; simp
    have q1 : (0 : Int) ≤ 8 * (i : Int) := by omega
    have q2 : (putL i n).length < 140737488355328 := by have := putL_length i n; omega
    simp only [e1, e2, e5, eq_true hlt.1, eq_true hlt.2, eq_true q1, eq_true q2, if_true]
    rw [putL_succ]
    unfold shr
    rw [e3, pow_is i (by omega)]
theorem rPut_ev (n b : Int) (hn : 0 ≤ n) : Ev (fun k => pumiceref01_Put.f k n b) (putL (clamp b) n) := rPut_l0 n b hn (clamp b) 0 (by omega)

theorem bGet_l0 (l : List Int) (hl : Bytes l) : ∀ (d i : Nat), i + d = min l.length 8 → Ev (fun k => bits_Get.l0 k l (getN l i) (mn (l.length : Int) 8) (i : Int)) (getL l)
  | 0, i, hi => by
    refine Ev.step (f := fun _ => some _) (fun k => ?_) (Ev.now _)
    have hi2 : i = min l.length 8 := by omega
    simp only [bits_Get.l0]
    rw [if_neg (by unfold mn; split <;> omega)]
    unfold getL
    rw [hi2]
  | d + 1, i, hi => by
    have h2 := bGet_l0 l hl d (i + 1) (by omega)
    refine Ev.step (fun k => ?_) h2
    simp only [bits_Get.l0]
    have hb := rd_lt l hl i
    have e1 : wrap64 (8 * (i : Int)) = 8 * (i : Int) := wrap64_of (by omega) (by omega)
    have e5 : wrap64 ((i : Int) + 1) = ((i + 1 : Nat) : Int) := by rw [wrap64_of (by omega) (by omega)]; simp
    rw [if_pos (by unfold mn; split <;> omega), if_pos (by omega), if_pos (by omega), e1, if_pos (by omega), e5, or64 i (by omega) (getN_bd hl i (by omega)) hb]
    rfl
theorem bGet_ev (l : List Int) (hl : Bytes l) : Ev (fun k => bits_Get.f k l) (getL l) := bGet_l0 l hl (min l.length 8) 0 (by omega)

theorem rFrame_ev (l : List Int) (hl : Bytes l) (hn : l.length ≤ 140737488351232) : Ev (fun k => pumiceref01_Frame.f k l) (frameL l) := by
  have hc2 : clamp 2 = 2 := rfl
  have hc4 : clamp 4 = 4 := rfl
  obtain ⟨K, hs⟩ := rSum_ev l hl (by omega)
  have hcr := (crc l).isLt
  have hp2 : Ev (fun k => pumiceref01_Put.f k (l.length : Int) 2) (putL 2 (l.length : Int)) := by have h := rPut_ev (l.length : Int) 2 (by omega); rwa [hc2] at h
  have hp4 : Ev (fun k => pumiceref01_Put.f k (((crc l).toNat : Nat) : Int) 4) (putL 4 (((crc l).toNat : Nat) : Int)) := by have h := rPut_ev (((crc l).toNat : Nat) : Int) 4 (by omega); rwa [hc4] at h
  unfold frameL
  by_cases h0 : l.length = 0
  · rw [if_pos (.inl h0)]
    refine ⟨1, fun k hk => ?_⟩
    obtain ⟨k, rfl⟩ : ∃ m, k = m + 1 := ⟨k - 1, by omega⟩
    show pumiceref01_Frame.f (k + 1) l = _
    unfold pumiceref01_Frame.f
    rw [if_pos (by omega)]
    simp [pumiceref01_Frame.j0]
  · by_cases h1 : 1024 < l.length
    · rw [if_pos (.inr h1)]
      refine ⟨1, fun k hk => ?_⟩
      obtain ⟨k, rfl⟩ : ∃ m, k = m + 1 := ⟨k - 1, by omega⟩
      show pumiceref01_Frame.f (k + 1) l = _
      unfold pumiceref01_Frame.f
      rw [if_neg (by omega), decide_eq_true (by omega)]
      simp [pumiceref01_Frame.j0]
    · rw [if_neg (by omega)]
      obtain ⟨K2, hp2⟩ := hp2
      obtain ⟨K4, hp4⟩ := hp4
      refine ⟨K + K2 + K4 + 1, fun k hk => ?_⟩
      obtain ⟨k, rfl⟩ : ∃ m, k = m + 1 := ⟨k - 1, by omega⟩
      show pumiceref01_Frame.f (k + 1) l = _
      unfold pumiceref01_Frame.f
      rw [if_neg (by omega), decide_eq_false (by omega)]
      simp only [pumiceref01_Frame.j0, Bool.false_eq_true, if_false]
      rw [wrapU64_of (by omega) (by omega)]
      have e1 := hp2 k (by omega)
      have e2 := hp4 k (by omega)
      have e3 := hs k (by omega)
      simp only [] at e1 e2 e3
      rw [e1, e3]
      simp only [Option.bind_some]
      rw [wrapU64_of (by omega) (by omega), e2]
      simp only [Option.bind_some]
      rw [if_pos (by simp only [putL_length]; omega), if_pos (by simp only [List.length_append, putL_length]; omega)]

theorem bUnframe_ev (l : List Int) (hl : Bytes l) (hn : l.length ≤ 4611686018427387904) : Ev (fun k => bits_Unframe.f k l) (unframeL l) := by
  unfold unframeL
  by_cases h6 : l.length < 6
  · rw [if_pos h6]
    refine ⟨0, fun k _ => ?_⟩
    show bits_Unframe.f k l = _
    unfold bits_Unframe.f
    rw [if_pos (by omega)]
  rw [if_neg h6]
  obtain ⟨K, hg⟩ := bGet_ev (l.take 2) (hl.take 2)
  have hlen2 : (l.take 2).length = 2 := by rw [List.length_take]; omega
  have hb := getL_bd (hl.take 2)
  rw [hlen2] at hb
  generalize hn2 : getL (l.take 2) = n at hb hg ⊢
  have hb2 : 0 ≤ n ∧ n < 65536 := hb
  have ew : wrap64 n = n := wrap64_of (by omega) (by omega)
  by_cases h0 : n = 0 ∨ 1024 < n ∨ (l.length : Int) - 6 < n
  · rw [if_pos h0]
    refine ⟨K + 1, fun k hk => ?_⟩
    obtain ⟨k, rfl⟩ : ∃ m, k = m + 1 := ⟨k - 1, by omega⟩
    have e1 := hg (k + 1) (by omega)
    simp only [] at e1
    show bits_Unframe.f (k + 1) l = _
    unfold bits_Unframe.f
    rw [if_neg (by omega), if_pos (by omega), e1]
    simp only [Option.bind_some, ew]
    have ew2 : wrap64 ((l.length : Int) - 6) = (l.length : Int) - 6 := wrap64_of (by omega) (by omega)
    rw [ew2]
    by_cases g0 : n = 0
    · rw [if_pos g0]; simp [bits_Unframe.j0]
    · by_cases g1 : n > 1024
      · rw [if_neg g0, if_pos g1]; simp [bits_Unframe.j0]
      · rw [if_neg g0, if_neg g1, decide_eq_true (by omega)]; simp [bits_Unframe.j0]
  · rw [if_neg h0]
    have ew2 : wrap64 ((l.length : Int) - 6) = (l.length : Int) - 6 := wrap64_of (by omega) (by omega)
    have ew3 : wrap64 (6 + n) = 6 + n := wrap64_of (by omega) (by omega)
    obtain ⟨K2, hs⟩ := bSum_ev ((l.take (6 + n).toNat).drop 6) ((hl.take _).drop _) (by rw [List.length_drop, List.length_take]; omega)
    obtain ⟨K3, hg2⟩ := bGet_ev ((l.take 6).drop 2) ((hl.take _).drop _)
    have hcr := (crc ((l.take (6 + n).toNat).drop 6)).isLt
    refine ⟨K + K2 + K3 + 1, fun k hk => ?_⟩
    obtain ⟨k, rfl⟩ : ∃ m, k = m + 1 := ⟨k - 1, by omega⟩
    have e1 := hg (k + 1) (by omega)
    have e2 := hs k (by omega)
    have e3 := hg2 k (by omega)
    simp only [] at e1 e2 e3
    show bits_Unframe.f (k + 1) l = _
    unfold bits_Unframe.f
    rw [if_neg (by omega), if_pos (by omega), e1]
    simp only [Option.bind_some, ew]
    rw [if_neg (by omega), if_neg (by omega), ew2, decide_eq_false (by omega)]
    simp only [bits_Unframe.j0, Bool.false_eq_true, if_false, Option.bind_some, List.nil_append, ew3]
    rw [if_pos (by omega), if_pos (by omega), if_pos (by simp only [List.length_nil, List.length_drop, List.length_take]; omega)]
    rw [e2]
    simp only [Option.bind_some]
    rw [if_pos (by omega), if_pos (by omega), e3]
    simp only [Option.bind_some]
    rw [wrapU64_of (by omega) (by omega)]
    by_cases hc : (((crc ((l.take (6 + n).toNat).drop 6)).toNat : Nat) : Int) = getL ((l.take 6).drop 2)
    · rw [if_pos hc, if_pos hc]
    · rw [if_neg hc, if_neg hc]

theorem bBlank_l0 (l : List Int) (hn : l.length ≤ 9223372036854775806) : ∀ (d i : Nat), i + d = l.length → Ev (fun k => bits_Blank.l0 k l (l.length : Int) (i : Int)) (blankL (l.drop i))
  | 0, i, hi => by
    refine Ev.step (f := fun _ => some _) (fun k => ?_) (Ev.now _)
    simp only [bits_Blank.l0]
    rw [if_neg (by omega), List.drop_of_length_le (by omega)]; rfl
  | d + 1, i, hi => by
    have h2 := bBlank_l0 l hn d (i + 1) (by omega)
    have e5 : wrap64 ((i : Int) + 1) = ((i + 1 : Nat) : Int) := by rw [wrap64_of (by omega) (by omega)]; simp
    have ed : l.drop i = l[i]'(by omega) :: l.drop (i + 1) := by rw [List.getElem_cons_drop]
    by_cases hc : rd l (i : Int) = 255
    · have e : blankL (l.drop i) = blankL (l.drop (i + 1)) := by rw [ed]; rw [rd_at l i (by omega)] at hc; simp [blankL, hc]
      rw [e]
      refine Ev.step (fun k => ?_) h2
      simp only [bits_Blank.l0]
      rw [if_pos (by omega), if_pos (by omega), if_pos (by omega), if_pos hc, e5]
    · have e : blankL (l.drop i) = false := by rw [ed]; rw [rd_at l i (by omega)] at hc; simp only [blankL, List.all_cons]; simp [hc]
      rw [e]
      refine Ev.step (f := fun _ => some _) (fun k => ?_) (Ev.now _)
      simp only [bits_Blank.l0]
      rw [if_pos (by omega), if_pos (by omega), if_pos (by omega), if_neg hc]
theorem bBlank_ev (l : List Int) (hn : l.length ≤ 9223372036854775806) : Ev (fun k => bits_Blank.f k l) (blankL l) := bBlank_l0 l hn l.length 0 (by omega)

theorem rFill_l0 (l : List Int) (n : Nat) (hn : n ≤ 1048576) : ∀ (d i : Nat), i + d = n → Ev (fun k => pumiceref01_Fill.l0 k l (n : Int) (fillL l i) (i : Int)) (fillL l n)
  | 0, i, hi => by
    refine Ev.step (f := fun _ => some _) (fun k => ?_) (Ev.now _)
    have hi2 : i = n := by omega
    subst hi2
    simp only [pumiceref01_Fill.l0]
    rw [if_neg (by omega)]
  | d + 1, i, hi => by
    have h2 := rFill_l0 l n hn d (i + 1) (by omega)
    refine Ev.step (fun k => ?_) h2
    have e := fillL_length l i
    have e5 : wrap64 ((i : Int) + 1) = ((i + 1 : Nat) : Int) := by rw [wrap64_of (by omega) (by omega)]; simp
    have q1 : (i : Int) < (n : Int) := by omega
    have q2 : (fillL l i).length < 140737488355328 := by omega
    have q3 : (0 : Int) ≤ (i : Int) := by omega
    by_cases hc : i < l.length
    · have q4 : (i : Int) < (l.length : Int) := by omega
      simp only [pumiceref01_Fill.l0, eq_true q1, eq_true q2, eq_true q3, eq_true q4, if_true, e5]
      rw [fillL_succ, if_pos hc]
    · have q4 : ¬ (i : Int) < (l.length : Int) := by omega
      simp only [pumiceref01_Fill.l0, eq_true q1, eq_true q2, eq_false q4, if_true, if_false, e5]
      rw [fillL_succ, if_neg hc]
theorem rFill_ev (l : List Int) (n : Nat) (hn : n ≤ 1048576) : Ev (fun k => pumiceref01_Fill.f k l (n : Int)) (fillL l n) := by
  have h := rFill_l0 l n hn n 0 (by omega)
  simp [fillL] at h ⊢
  exact h
theorem rFill_neg (l : List Int) (n : Int) (hn : n < 0) : Ev (fun k => pumiceref01_Fill.f k l n) [] := by
  refine Ev.step (f := fun _ => some _) (fun k => ?_) (Ev.now _)
  unfold pumiceref01_Fill.f
  simp only [pumiceref01_Fill.l0]
  rw [if_neg (by omega)]
end Go.Proofs.YtdlimghdimkadaaDoor.PAll
