/- What the law ScanOnce rests on, part 12: texts of the session and what the print wrote for it, one behind the other; only what the proof names is kept. -/
import Derived.Test.YtdlimghdimkadaaDoorQ7
import Derived.Test.YtdlimghdimkadaaDoorQ8
import Derived.Test.YtdlimghdimkadaaDoorQ9
import Derived.Test.YtdlimghdimkadaaDoorQ11
import Derived.LaidEql
import Derived.Stop.Asserts
import Derived.RowKitTokens
import Derived.Test.YtdlimghdimkadaaDoorQ1
import Derived.BigQuiet
namespace Go.Proofs.YtdlimghdimkadaaDoor.PAll
open Go.RowKit Go.Proofs.YtdlimghdimkadaaDoorW.PrintWords Go.Proofs.YtdlimghdimkadaaDoorW.PrintLast Go.Proofs.YtdlimghdimkadaaDoor.Plain
set_option linter.unusedVariables false
set_option linter.unusedSimpArgs false
def clamp (b : Int) : Nat := if b < 0 then 0 else if 8 < b then 8 else b.toNat
theorem bSum_l1 (l : List Int) (n i r : Int) : ∀ (d : Nat) (s : BitVec 32) (j : Int), j + d = 8 → 0 ≤ j →
  Ev (fun k => bits_Sum.l0 k ((steps d s).toNat : Int) l n (wrap64 (i + 1))) r → Ev (fun k => bits_Sum.l1 k (s.toNat : Int) l n i j) r
 | 0, s, j, hd, hj, h => Ev.step (fun k => by simp only [bits_Sum.l1]; rw [if_neg (by omega)]; rfl) h
 | d + 1, s, j, hd, hj, h => by
  have h2 := bSum_l1 l n i r d (crcStep s) (j + 1) (by omega) (by omega) h
  refine Ev.step (fun k => ?_) h2
  simp only [bits_Sum.l1]
  rw [if_pos (by omega), wrap64_of (by omega) (by omega)]
  by_cases hb : s.getLsbD 0 = true
  ·rw [if_pos ((odd32 s).2 hb), half32, poly32, xor32]; unfold crcStep; rw [if_pos hb]
  ·rw [if_neg (fun h => hb ((odd32 s).1 h)), half32]; unfold crcStep; rw [if_neg hb]
theorem bSum_l0 (l : List Int) (hl : Bytes l) (hn : l.length ≤ 9223372036854775806) : ∀ (d i : Nat) (s : BitVec 32), i + d = l.length →
  Ev (fun k => bits_Sum.l0 k (s.toNat : Int) l (l.length : Int) (i : Int)) (((0xFFFFFFFF#32 ^^^ (l.drop i).foldl feed s).toNat : Nat) : Int)
 | 0, i, s, hi => by
  refine Ev.step (f := fun _ => some _) (fun k => ?_) (Ev.now _)
  simp only [bits_Sum.l0]
  rw [if_neg (by omega), ones32, xor32, List.drop_of_length_le (by omega)]; rfl
 | d + 1, i, s, hi => by
  have h2 := bSum_l0 l hl hn d (i + 1) (feed s (l[i]'(by omega))) (by omega)
  rw [← List.foldl_cons, List.getElem_cons_drop] at h2
  have hw : wrap64 ((i : Int) + 1) = ((i + 1 : Nat) : Int) := by rw [wrap64_of (by omega) (by omega)]; simp
  rw [← hw] at h2
  have h3 := bSum_l1 l (l.length : Int) (i : Int) _ 8 (s ^^^ BitVec.ofInt 32 (l[i]'(by omega))) 0 (by omega) (by omega) h2
  refine Ev.step (fun k => ?_) h3
  simp only [bits_Sum.l0]
  rw [if_pos (by omega), if_pos (by omega), if_pos (by omega), rd_at l i (by omega), byte32, xor32]
theorem bSum_ev (l : List Int) (hl : Bytes l) (hn : l.length ≤ 9223372036854775806) : Ev (fun k => bits_Sum.f k l) (((crc l).toNat : Nat) : Int) :=
 bSum_l0 l hl hn l.length 0 0xFFFFFFFF#32 (by omega)
theorem rSum_l1 (l : List Int) (i r : Int) : ∀ (d : Nat) (s : BitVec 32) (j : Int), j + d = 8 → 0 ≤ j →
  Ev (fun k => pumiceref01_Sum.l0 k l ((steps d s).toNat : Int) (wrap64 (i + 1))) r → Ev (fun k => pumiceref01_Sum.l1 k l (s.toNat : Int) i j) r
 | 0, s, j, hd, hj, h => Ev.step (fun k => by simp only [pumiceref01_Sum.l1]; rw [if_neg (by omega)]; rfl) h
 | d + 1, s, j, hd, hj, h => by
  have h2 := rSum_l1 l i r d (crcStep s) (j + 1) (by omega) (by omega) h
  refine Ev.step (fun k => ?_) h2
  simp only [pumiceref01_Sum.l1]
  rw [if_pos (by omega), wrap64_of (by omega) (by omega)]
  by_cases hb : s.getLsbD 0 = true
  ·rw [if_pos ((odd32 s).2 hb), half32, poly32, xor32]; unfold crcStep; rw [if_pos hb]
  ·rw [if_neg (fun h => hb ((odd32 s).1 h)), half32]; unfold crcStep; rw [if_neg hb]
theorem rSum_l0 (l : List Int) (hl : Bytes l) (hn : l.length ≤ 9223372036854775806) : ∀ (d i : Nat) (s : BitVec 32), i + d = l.length →
  Ev (fun k => pumiceref01_Sum.l0 k l (s.toNat : Int) (i : Int)) (((0xFFFFFFFF#32 ^^^ (l.drop i).foldl feed s).toNat : Nat) : Int)
 | 0, i, s, hi => by
  refine Ev.step (f := fun _ => some _) (fun k => ?_) (Ev.now _)
  simp only [pumiceref01_Sum.l0]
  rw [if_neg (by omega), ones32, xor32, List.drop_of_length_le (by omega)]; rfl
 | d + 1, i, s, hi => by
  have h2 := rSum_l0 l hl hn d (i + 1) (feed s (l[i]'(by omega))) (by omega)
  rw [← List.foldl_cons, List.getElem_cons_drop] at h2
  have hw : wrap64 ((i : Int) + 1) = ((i + 1 : Nat) : Int) := by rw [wrap64_of (by omega) (by omega)]; simp
  rw [← hw] at h2
  have h3 := rSum_l1 l (i : Int) _ 8 (s ^^^ BitVec.ofInt 32 (l[i]'(by omega))) 0 (by omega) (by omega) h2
  refine Ev.step (fun k => ?_) h3
  simp only [pumiceref01_Sum.l0]
  rw [if_pos (by omega), if_pos (by omega), rd_at l i (by omega), byte32, xor32]
theorem rSum_ev (l : List Int) (hl : Bytes l) (hn : l.length ≤ 9223372036854775806) : Ev (fun k => pumiceref01_Sum.f k l) (((crc l).toNat : Nat) : Int) :=
 rSum_l0 l hl hn l.length 0 0xFFFFFFFF#32 (by omega)
theorem rPut_l0 (n b : Int) (hn : 0 ≤ n) : ∀ (d i : Nat), i + d = clamp b → Ev (fun k => pumiceref01_Put.l0 k n b (putL i n) (i : Int)) (putL (clamp b) n)
 | 0, i, hi => by
  refine Ev.step (f := fun _ => some _) (fun k => ?_) (Ev.now _)
  have hi2 : i = clamp b := by omega
  simp only [pumiceref01_Put.l0]
  rw [hi2]
  unfold clamp
  split
  ·rw [if_neg (by omega)]
  ·split
   ·by_cases h : ((8 : Nat) : Int) < b
    ·rw [if_pos h, if_neg (by omega)]
    ·rw [if_neg h]
   ·rw [if_neg (by omega)]
 | d + 1, i, hi => by
  have h2 := rPut_l0 n b hn d (i + 1) (by omega)
  have hlt : (i : Int) < b ∧ (i : Int) < 8 := by
   unfold clamp at hi
   split at hi
   ·omega
   ·split at hi <;> omega
  refine Ev.step (fun k => ?_) h2
  simp only [pumiceref01_Put.l0]
  have e1 : wrap64 (8 * (i : Int)) = 8 * (i : Int) := wrap64_of (by omega) (by omega)
  have e2 : IntKind.u64.wrap (8 * (i : Int)) = 8 * (i : Int) := wrapU64_of (by omega) (by omega)
  have e3 : min (8 * (i : Int)).toNat IntKind.u64.bits = 8 * i := by simp only [IntKind.bits]; omega
  have e5 : wrap64 ((i : Int) + 1) = ((i + 1 : Nat) : Int) := by rw [wrap64_of (by omega) (by omega)]; simp
  have q1 : (0 : Int) ≤ 8 * (i : Int) := by omega
  have q2 : (putL i n).length < 140737488355328 := by have := putL_length i n; omega
  simp only [e1, e2, e5, eq_true hlt.1, eq_true hlt.2, eq_true q1, eq_true q2, if_true]
  rw [putL_succ]
  unfold shr
  rw [e3, pow_is i (by omega)]
theorem rPut_ev (n b : Int) (hn : 0 ≤ n) : Ev (fun k => pumiceref01_Put.f k n b) (putL (clamp b) n) := rPut_l0 n b hn (clamp b) 0 (by omega)
theorem bGet_l0 (l : List Int) (hl : Bytes l) : ∀ (d i : Nat), i + d = min l.length 8 → Ev (fun k => bits_Get.l0 k l (getN l i) (mn (l.length : Int) 8) (i : Int)) (getL l)
 | 0, i, hi => by
  refine Ev.step (f := fun _ => some _) (fun k => ?_) (Ev.now _)
  have hi2 : i = min l.length 8 := by omega
  simp only [bits_Get.l0]
  rw [if_neg (by unfold mn; split <;> omega)]
  unfold getL
  rw [hi2]
 | d + 1, i, hi => by
  have h2 := bGet_l0 l hl d (i + 1) (by omega)
  refine Ev.step (fun k => ?_) h2
  simp only [bits_Get.l0]
  have hb := rd_lt l hl i
  have e1 : wrap64 (8 * (i : Int)) = 8 * (i : Int) := wrap64_of (by omega) (by omega)
  have e5 : wrap64 ((i : Int) + 1) = ((i + 1 : Nat) : Int) := by rw [wrap64_of (by omega) (by omega)]; simp
  rw [if_pos (by unfold mn; split <;> omega), if_pos (by omega), if_pos (by omega), e1, if_pos (by omega), e5, or64 i (by omega) (getN_bd hl i (by omega)) hb]
  rfl
theorem bGet_ev (l : List Int) (hl : Bytes l) : Ev (fun k => bits_Get.f k l) (getL l) := bGet_l0 l hl (min l.length 8) 0 (by omega)
theorem rFrame_ev (l : List Int) (hl : Bytes l) (hn : l.length ≤ 140737488351232) : Ev (fun k => pumiceref01_Frame.f k l) (frameL l) := by
 have hc2 : clamp 2 = 2 := rfl
 have hc4 : clamp 4 = 4 := rfl
 obtain ⟨K, hs⟩ := rSum_ev l hl (by omega)
 have hcr := (crc l).isLt
 have hp2 : Ev (fun k => pumiceref01_Put.f k (l.length : Int) 2) (putL 2 (l.length : Int)) := by have h := rPut_ev (l.length : Int) 2 (by omega); rwa [hc2] at h
 have hp4 : Ev (fun k => pumiceref01_Put.f k (((crc l).toNat : Nat) : Int) 4) (putL 4 (((crc l).toNat : Nat) : Int)) := by have h := rPut_ev (((crc l).toNat : Nat) : Int) 4 (by omega); rwa [hc4] at h
 unfold frameL
 by_cases h0 : l.length = 0
 ·rw [if_pos (.inl h0)]
  refine ⟨1, fun k hk => ?_⟩
  obtain ⟨k, rfl⟩ : ∃ m, k = m + 1 := ⟨k - 1, by omega⟩
  show pumiceref01_Frame.f (k + 1) l = _
  unfold pumiceref01_Frame.f
  rw [if_pos (by omega)]
  simp [pumiceref01_Frame.j0]
 ·by_cases h1 : 1024 < l.length
  ·rw [if_pos (.inr h1)]
   refine ⟨1, fun k hk => ?_⟩
   obtain ⟨k, rfl⟩ : ∃ m, k = m + 1 := ⟨k - 1, by omega⟩
   show pumiceref01_Frame.f (k + 1) l = _
   unfold pumiceref01_Frame.f
   rw [if_neg (by omega), decide_eq_true (by omega)]
   simp [pumiceref01_Frame.j0]
  ·rw [if_neg (by omega)]
   obtain ⟨K2, hp2⟩ := hp2
   obtain ⟨K4, hp4⟩ := hp4
   refine ⟨K + K2 + K4 + 1, fun k hk => ?_⟩
   obtain ⟨k, rfl⟩ : ∃ m, k = m + 1 := ⟨k - 1, by omega⟩
   show pumiceref01_Frame.f (k + 1) l = _
   unfold pumiceref01_Frame.f
   rw [if_neg (by omega), decide_eq_false (by omega)]
   simp only [pumiceref01_Frame.j0, Bool.false_eq_true, if_false]
   rw [wrapU64_of (by omega) (by omega)]
   have e1 := hp2 k (by omega)
   have e2 := hp4 k (by omega)
   have e3 := hs k (by omega)
   simp only [] at e1 e2 e3
   rw [e1, e3]
   simp only [Option.bind_some]
   rw [wrapU64_of (by omega) (by omega), e2]
   simp only [Option.bind_some]
   rw [if_pos (by simp only [putL_length]; omega), if_pos (by simp only [List.length_append, putL_length]; omega)]
theorem bUnframe_ev (l : List Int) (hl : Bytes l) (hn : l.length ≤ 4611686018427387904) : Ev (fun k => bits_Unframe.f k l) (unframeL l) := by
 unfold unframeL
 by_cases h6 : l.length < 6
 ·rw [if_pos h6]
  refine ⟨0, fun k _ => ?_⟩
  show bits_Unframe.f k l = _
  unfold bits_Unframe.f
  rw [if_pos (by omega)]
 rw [if_neg h6]
 obtain ⟨K, hg⟩ := bGet_ev (l.take 2) (hl.take 2)
 have hlen2 : (l.take 2).length = 2 := by rw [List.length_take]; omega
 have hb := getL_bd (hl.take 2)
 rw [hlen2] at hb
 generalize hn2 : getL (l.take 2) = n at hb hg ⊢
 have hb2 : 0 ≤ n ∧ n < 65536 := hb
 have ew : wrap64 n = n := wrap64_of (by omega) (by omega)
 by_cases h0 : n = 0 ∨ 1024 < n ∨ (l.length : Int) - 6 < n
 ·rw [if_pos h0]
  refine ⟨K + 1, fun k hk => ?_⟩
  obtain ⟨k, rfl⟩ : ∃ m, k = m + 1 := ⟨k - 1, by omega⟩
  have e1 := hg (k + 1) (by omega)
  simp only [] at e1
  show bits_Unframe.f (k + 1) l = _
  unfold bits_Unframe.f
  rw [if_neg (by omega), if_pos (by omega), e1]
  simp only [Option.bind_some, ew]
  have ew2 : wrap64 ((l.length : Int) - 6) = (l.length : Int) - 6 := wrap64_of (by omega) (by omega)
  rw [ew2]
  by_cases g0 : n = 0
  ·rw [if_pos g0]; simp [bits_Unframe.j0]
  ·by_cases g1 : n > 1024
   ·rw [if_neg g0, if_pos g1]; simp [bits_Unframe.j0]
   ·rw [if_neg g0, if_neg g1, decide_eq_true (by omega)]; simp [bits_Unframe.j0]
 ·rw [if_neg h0]
  have ew2 : wrap64 ((l.length : Int) - 6) = (l.length : Int) - 6 := wrap64_of (by omega) (by omega)
  have ew3 : wrap64 (6 + n) = 6 + n := wrap64_of (by omega) (by omega)
  obtain ⟨K2, hs⟩ := bSum_ev ((l.take (6 + n).toNat).drop 6) ((hl.take _).drop _) (by rw [List.length_drop, List.length_take]; omega)
  obtain ⟨K3, hg2⟩ := bGet_ev ((l.take 6).drop 2) ((hl.take _).drop _)
  have hcr := (crc ((l.take (6 + n).toNat).drop 6)).isLt
  refine ⟨K + K2 + K3 + 1, fun k hk => ?_⟩
  obtain ⟨k, rfl⟩ : ∃ m, k = m + 1 := ⟨k - 1, by omega⟩
  have e1 := hg (k + 1) (by omega)
  have e2 := hs k (by omega)
  have e3 := hg2 k (by omega)
  simp only [] at e1 e2 e3
  show bits_Unframe.f (k + 1) l = _
  unfold bits_Unframe.f
  rw [if_neg (by omega), if_pos (by omega), e1]
  simp only [Option.bind_some, ew]
  rw [if_neg (by omega), if_neg (by omega), ew2, decide_eq_false (by omega)]
  simp only [bits_Unframe.j0, Bool.false_eq_true, if_false, Option.bind_some, List.nil_append, ew3]
  rw [if_pos (by omega), if_pos (by omega), if_pos (by simp only [List.length_nil, List.length_drop, List.length_take]; omega)]
  rw [e2]
  simp only [Option.bind_some]
  rw [if_pos (by omega), if_pos (by omega), e3]
  simp only [Option.bind_some]
  rw [wrapU64_of (by omega) (by omega)]
  by_cases hc : (((crc ((l.take (6 + n).toNat).drop 6)).toNat : Nat) : Int) = getL ((l.take 6).drop 2)
  ·rw [if_pos hc, if_pos hc]
  ·rw [if_neg hc, if_neg hc]
theorem bBlank_l0 (l : List Int) (hn : l.length ≤ 9223372036854775806) : ∀ (d i : Nat), i + d = l.length → Ev (fun k => bits_Blank.l0 k l (l.length : Int) (i : Int)) (blankL (l.drop i))
 | 0, i, hi => by
  refine Ev.step (f := fun _ => some _) (fun k => ?_) (Ev.now _)
  simp only [bits_Blank.l0]
  rw [if_neg (by omega), List.drop_of_length_le (by omega)]; rfl
 | d + 1, i, hi => by
  have h2 := bBlank_l0 l hn d (i + 1) (by omega)
  have e5 : wrap64 ((i : Int) + 1) = ((i + 1 : Nat) : Int) := by rw [wrap64_of (by omega) (by omega)]; simp
  have ed : l.drop i = l[i]'(by omega) :: l.drop (i + 1) := by rw [List.getElem_cons_drop]
  by_cases hc : rd l (i : Int) = 255
  ·have e : blankL (l.drop i) = blankL (l.drop (i + 1)) := by rw [ed]; rw [rd_at l i (by omega)] at hc; simp [blankL, hc]
   rw [e]
   refine Ev.step (fun k => ?_) h2
   simp only [bits_Blank.l0]
   rw [if_pos (by omega), if_pos (by omega), if_pos (by omega), if_pos hc, e5]
  ·have e : blankL (l.drop i) = false := by rw [ed]; rw [rd_at l i (by omega)] at hc; simp only [blankL, List.all_cons]; simp [hc]
   rw [e]
   refine Ev.step (f := fun _ => some _) (fun k => ?_) (Ev.now _)
   simp only [bits_Blank.l0]
   rw [if_pos (by omega), if_pos (by omega), if_pos (by omega), if_neg hc]
theorem bBlank_ev (l : List Int) (hn : l.length ≤ 9223372036854775806) : Ev (fun k => bits_Blank.f k l) (blankL l) := bBlank_l0 l hn l.length 0 (by omega)
theorem rFill_l0 (l : List Int) (n : Nat) (hn : n ≤ 1048576) : ∀ (d i : Nat), i + d = n → Ev (fun k => pumiceref01_Fill.l0 k l (n : Int) (fillL l i) (i : Int)) (fillL l n)
 | 0, i, hi => by
  refine Ev.step (f := fun _ => some _) (fun k => ?_) (Ev.now _)
  have hi2 : i = n := by omega
  subst hi2
  simp only [pumiceref01_Fill.l0]
  rw [if_neg (by omega)]
 | d + 1, i, hi => by
  have h2 := rFill_l0 l n hn d (i + 1) (by omega)
  refine Ev.step (fun k => ?_) h2
  have e := fillL_length l i
  have e5 : wrap64 ((i : Int) + 1) = ((i + 1 : Nat) : Int) := by rw [wrap64_of (by omega) (by omega)]; simp
  have q1 : (i : Int) < (n : Int) := by omega
  have q2 : (fillL l i).length < 140737488355328 := by omega
  have q3 : (0 : Int) ≤ (i : Int) := by omega
  by_cases hc : i < l.length
  ·have q4 : (i : Int) < (l.length : Int) := by omega
   simp only [pumiceref01_Fill.l0, eq_true q1, eq_true q2, eq_true q3, eq_true q4, if_true, e5]
   rw [fillL_succ, if_pos hc]
  ·have q4 : ¬ (i : Int) < (l.length : Int) := by omega
   simp only [pumiceref01_Fill.l0, eq_true q1, eq_true q2, eq_false q4, if_true, if_false, e5]
   rw [fillL_succ, if_neg hc]
theorem rFill_ev (l : List Int) (n : Nat) (hn : n ≤ 1048576) : Ev (fun k => pumiceref01_Fill.f k l (n : Int)) (fillL l n) := by
 have h := rFill_l0 l n hn n 0 (by omega)
 simp [fillL] at h ⊢
 exact h
end Go.Proofs.YtdlimghdimkadaaDoor.PAll
namespace Go.Proofs.YtdlimghdimkadaaDoor.Plain
open Go Go.RowKit Go.Proofs.YtdlimghdimkadaaDoorW.PrintWords
def imageL (p : List Int) (page : Int) : List Int := fillL (frameL p).1 page.toNat
def countP (n : Int) : List Int := 69 :: putL 4 n
def mapP (leb seq pages : Int) : List Int := 77 :: putL 2 leb ++ putL 8 seq ++ [pages]
def countL (n page : Int) : List Int × Int := if n < 0 ∨ 2147483647 < n ∨ page < 64 ∨ 512 < page then ([], 22) else (imageL (countP n) page, 0)
def mapL (leb seq pages page : Int) : List Int × Int := if leb < 0 ∨ 256 ≤ leb ∨ pages < 0 ∨ 64 < pages ∨ page < 64 ∨ 512 < page then ([], 22) else (imageL (mapP leb seq pages) page, 0)
def openL (b : List Int) (kind : Int) (n : Nat) : Option (List Int) :=
 if b.length < 64 ∨ 512 < b.length then none
 else if (unframeL b).2.2 = true ∧ (unframeL b).1.length = n ∧ (unframeL b).1.getD 0 0 = kind ∧ blankL (b.drop (unframeL b).2.1.toNat) = true then some (unframeL b).1 else none
def parseCountL (b : List Int) : Int × Bool :=
 match openL b 69 5 with
 | none => (0, false)
 | some p => if 2147483647 < getL (p.drop 1) then (0, false) else (getL (p.drop 1), true)
def parseMapL (b : List Int) : (Int × Int × Int) × Bool :=
 match openL b 77 12 with
 | none => ((0, 0, 0), false)
 | some p => if 256 ≤ getL ((p.drop 1).take 2) ∨ 64 < getL ((p.drop 11).take 1) then ((0, 0, 0), false) else ((getL ((p.drop 1).take 2), getL ((p.drop 3).take 8), getL ((p.drop 11).take 1)), true)
theorem unframe_bytes {b : List Int} (hb : Bytes b) : Bytes (unframeL b).1 := by
 unfold unframeL
 split
 ·exact fun _ h => by cases h
 ·split
  ·exact fun _ h => by cases h
  ·split
   ·exact (hb.take _).drop _
   ·exact fun _ h => by cases h
theorem unframe_end {b : List Int} (hb : Bytes b) : 0 ≤ (unframeL b).2.1 ∧ (unframeL b).2.1 ≤ b.length := by
 unfold unframeL
 split
 ·exact ⟨Int.le_refl _, by simp⟩
 ·rename_i h6
  have h0 := (getL_bd (hb.take 2)).1
  split
  ·exact ⟨Int.le_refl _, by simp⟩
  ·rename_i hc
   split
   ·simp only [not_or, Int.not_lt] at hc
    exact ⟨by show 0 ≤ 6 + getL (b.take 2); omega, by show 6 + getL (b.take 2) ≤ b.length; omega⟩
   ·exact ⟨Int.le_refl _, by simp⟩
theorem open_bytes {b p : List Int} {kind : Int} {n : Nat} (hb : Bytes b) (h : openL b kind n = some p) : Bytes p ∧ p.length = n ∧ p.getD 0 0 = kind := by
 unfold openL at h
 split at h
 ·cases h
 ·split at h
  ·rename_i hc
   cases h
   exact ⟨unframe_bytes hb, hc.2.1, hc.2.2.1⟩
  ·cases h
theorem countP_bytes (n : Int) : Bytes (countP n) := fun x hx => by
 rcases List.mem_cons.1 hx with rfl | hx
 ·decide
 ·exact Bytes.putL 4 n x hx
theorem countP_length (n : Int) : (countP n).length = 5 := by simp [countP, putL_length]
theorem mapP_bytes (leb seq pages : Int) (hp : 0 ≤ pages ∧ pages < 256) : Bytes (mapP leb seq pages) := by
 unfold mapP
 refine Bytes.append (Bytes.append (fun x hx => ?_) (Bytes.putL 8 seq)) (fun x hx => ?_)
 ·rcases List.mem_cons.1 hx with rfl | hx
  ·decide
  ·exact Bytes.putL 2 leb x hx
 ·rcases List.mem_singleton.1 hx with rfl
  exact hp
theorem mapP_length (leb seq pages : Int) : (mapP leb seq pages).length = 12 := by simp [mapP, putL_length]
theorem frame_len {p : List Int} (h0 : p.length ≠ 0) (h1 : p.length ≤ 1024) : (frameL p).1.length = 6 + p.length := by
 rw [frame_parts h0 h1]
 simp only [List.length_append, putL_length]
theorem frame_bytes {p : List Int} (hp : Bytes p) : Bytes (frameL p).1 := by
 unfold frameL
 split
 ·exact fun _ h => by cases h
 ·exact ((Bytes.putL _ _).append (Bytes.putL _ _)).append hp
theorem fill_bytes {l : List Int} (hl : Bytes l) (n : Nat) : Bytes (fillL l n) := by
 unfold fillL
 refine (hl.take n).append (fun x hx => ?_)
 rw [List.eq_of_mem_replicate hx]
 decide
theorem image_bytes {p : List Int} (hp : Bytes p) (page : Int) : Bytes (imageL p page) := fill_bytes (frame_bytes hp) _
theorem image_length (p : List Int) (page : Int) : (imageL p page).length = page.toNat := fillL_length _ _
theorem image_parts {p : List Int} (h0 : p.length ≠ 0) (h1 : p.length ≤ 50) {page : Int} (hp : 64 ≤ page) : imageL p page = (frameL p).1 ++ List.replicate (page.toNat - (6 + p.length)) 255 := by
 have hl := frame_len h0 (by omega)
 unfold imageL fillL
 rw [List.take_of_length_le (by omega), hl]
theorem blank_rep (n : Nat) : blankL (List.replicate n 255) = true := by
 unfold blankL
 rw [List.all_eq_true]
 intro x hx
 rw [List.eq_of_mem_replicate hx]
 rfl
theorem image_unframe {p : List Int} (h0 : p.length ≠ 0) (h1 : p.length ≤ 50) {page : Int} (hp : 64 ≤ page) : unframeL (imageL p page) = (p, 6 + (p.length : Int), true) := by
 rw [image_parts h0 h1 hp]
 exact unframe_frame _ h0 (by omega)
theorem image_open {p : List Int} (h0 : p.length ≠ 0) (h1 : p.length ≤ 50) {page : Int} (hp : 64 ≤ page) (hq : page ≤ 512) (kind : Int) (n : Nat) :
  openL (imageL p page) kind n = if p.length = n ∧ p.getD 0 0 = kind then some p else none := by
 have hd : (imageL p page).drop (6 + (p.length : Int)).toNat = List.replicate (page.toNat - (6 + p.length)) 255 := by
  rw [image_parts h0 h1 hp, List.drop_left' (by rw [frame_len h0 (by omega)]; omega)]
 unfold openL
 rw [if_neg (by rw [image_length]; omega), image_unframe h0 h1 hp]
 simp only [hd, blank_rep, true_and, and_true]
theorem parse_count {n page : Int} (hn : 0 ≤ n ∧ n ≤ 2147483647) (hp : 64 ≤ page ∧ page ≤ 512) : parseCountL (imageL (countP n) page) = (n, true) := by
 have h1 : getL ((countP n).drop 1) = n := by
  show getL (putL 4 n) = n
  rw [getL_putL _ _ (by omega)]
  omega
 unfold parseCountL
 rw [image_open (by rw [countP_length]; decide) (by rw [countP_length]; decide) hp.1 hp.2, if_pos ⟨countP_length n, rfl⟩]
 show (if 2147483647 < getL ((countP n).drop 1) then ((0 : Int), false) else (getL ((countP n).drop 1), true)) = _
 rw [h1, if_neg (by omega)]
theorem parse_map {leb seq pages page : Int} (h1 : 0 ≤ leb ∧ leb < 256) (h2 : 0 ≤ seq ∧ seq < 18446744073709551616) (h3 : 0 ≤ pages ∧ pages ≤ 64) (hp : 64 ≤ page ∧ page ≤ 512) : parseMapL (imageL (mapP leb seq pages) page) = ((leb, seq, pages), true) := by
 have e1 : ((mapP leb seq pages).drop 1).take 2 = putL 2 leb := by
  show (putL 2 leb ++ putL 8 seq ++ [pages]).take 2 = _
  rw [List.append_assoc, List.take_left' (putL_length _ _)]
 have e2 : ((mapP leb seq pages).drop 3).take 8 = putL 8 seq := by
  show ((putL 2 leb ++ putL 8 seq ++ [pages]).drop 2).take 8 = _
  rw [List.append_assoc, List.drop_left' (putL_length _ _), List.take_left' (putL_length _ _)]
 have e3 : ((mapP leb seq pages).drop 11).take 1 = [pages] := by
  show ((putL 2 leb ++ putL 8 seq ++ [pages]).drop 10).take 1 = _
  rw [List.drop_left' (by rw [List.length_append, putL_length, putL_length])]
  rfl
 have g1 : getL (putL 2 leb) = leb := by rw [getL_putL _ _ (by omega)]; omega
 have g2 : getL (putL 8 seq) = seq := by rw [getL_putL _ _ (by omega)]; omega
 have g3 : getL [pages] = pages := by
  show getN [pages] 1 = pages
  simp [getN]
 unfold parseMapL
 rw [image_open (by rw [mapP_length]; decide) (by rw [mapP_length]; decide) hp.1 hp.2, if_pos ⟨mapP_length _ _ _, rfl⟩]
 show (if 256 ≤ getL (((mapP leb seq pages).drop 1).take 2) ∨ 64 < getL (((mapP leb seq pages).drop 11).take 1) then (((0 : Int), (0 : Int), (0 : Int)), false) else ((getL (((mapP leb seq pages).drop 1).take 2), getL (((mapP leb seq pages).drop 3).take 8), getL (((mapP leb seq pages).drop 11).take 1)), true)) = _
 rw [e1, e2, e3, g1, g2, g3, if_neg (by omega)]
end Go.Proofs.YtdlimghdimkadaaDoor.Plain
namespace Go.Proofs.YtdlimghdimkadaaDoor.PAll
open Go.RowKit Go.Proofs.YtdlimghdimkadaaDoorW.PrintWords Go.Proofs.YtdlimghdimkadaaDoorW.PrintLast Go.Proofs.YtdlimghdimkadaaDoor.Plain
set_option linter.unusedVariables false
set_option linter.unusedSimpArgs false
theorem Ev.succ {α : Type} {g : Nat → Option α} {r : α} (h : Ev (fun k => g (k + 1)) r) : Ev g r := Ev.step (fun _ => rfl) h
theorem rImage_ev (p : List Int) (hp : Bytes p) (h1 : p.length ≤ 50) (page : Int) (hq : 0 ≤ page ∧ page ≤ 512) : Ev (fun k => pumiceref05_image.f k p page) (imageL p page) := by
 unfold pumiceref05_image.f
 obtain ⟨q, rfl⟩ : ∃ q : Nat, page = (q : Int) := ⟨page.toNat, by omega⟩
 refine Ev.bind (rFrame_ev p hp (by omega)) ?_
 exact Ev.bind (rFill_ev _ q (by omega)) (Ev.now _)
theorem rCount_ev (n page : Int) : Ev (fun k => pumiceref05_Count.f k n page) (countL n page) := by
 unfold pumiceref05_Count.f countL
 by_cases h : n < 0 ∨ 2147483647 < n ∨ page < 64 ∨ 512 < page
 ·rw [if_pos h]
  have hj : Ev (fun k => pumiceref05_Count.j0 k n page true) ([], 22) := Ev.succ (by simp only [pumiceref05_Count.j0, if_true]; exact Ev.now _)
  by_cases h1 : page < 64
  ·simp only [if_pos h1]; exact hj
  ·by_cases h2 : page > 512
   ·simp only [if_neg h1, if_pos h2]; exact hj
   ·by_cases h3 : n < 0
    ·simp only [if_neg h1, if_neg h2, if_pos h3]; exact hj
    ·simp only [if_neg h1, if_neg h2, if_neg h3, decide_eq_true (show n > 2147483647 by omega)]; exact hj
 ·rw [if_neg h]
  simp only [if_neg (show ¬ (page < 64) by omega), if_neg (show ¬ (page > 512) by omega), if_neg (show ¬ (n < 0) by omega), decide_eq_false (show ¬ (n > 2147483647) by omega)]
  refine Ev.succ ?_
  simp only [pumiceref05_Count.j0, Bool.false_eq_true, if_false]
  rw [wrapU64_of (by omega) (by omega)]
  simp only [Option.bind_some]
  have h4 := rPut_ev n 4 (by omega)
  rw [show clamp 4 = 4 from rfl] at h4
  refine Ev.bind h4 ?_
  have hc := countP_bytes n
  have hl := countP_length n
  simp only [if_pos (show ([69] : List Int).length + (putL 4 n).length < 140737488355328 by rw [putL_length]; decide)]
  exact Ev.bind (rImage_ev (countP n) hc (by omega) page (by omega)) (Ev.now _)
theorem rMapping_ev (leb seq pages page : Int) (hs : 0 ≤ seq) : Ev (fun k => pumiceref05_Mapping.f k leb seq pages page) (mapL leb seq pages page) := by
 unfold pumiceref05_Mapping.f mapL
 by_cases h : leb < 0 ∨ 256 ≤ leb ∨ pages < 0 ∨ 64 < pages ∨ page < 64 ∨ 512 < page
 ·rw [if_pos h]
  have hj : Ev (fun k => pumiceref05_Mapping.j0 k page true leb seq pages) ([], 22) := Ev.succ (by simp only [pumiceref05_Mapping.j0, if_true]; exact Ev.now _)
  by_cases h4 : page < 64
  ·simp only [if_pos h4]; exact hj
  ·by_cases h5 : page > 512
   ·simp only [if_neg h4, if_pos h5]; exact hj
   ·by_cases h1 : leb < 0
    ·simp only [if_neg h4, if_neg h5, if_pos h1]; exact hj
    ·by_cases h2 : leb ≥ 256
     ·simp only [if_neg h4, if_neg h5, if_neg h1, if_pos h2]; exact hj
     ·by_cases h3 : pages < 0
      ·simp only [if_neg h4, if_neg h5, if_neg h1, if_neg h2, if_pos h3]; exact hj
      ·simp only [if_neg h4, if_neg h5, if_neg h1, if_neg h2, if_neg h3, decide_eq_true (show pages > 64 by omega)]; exact hj
 ·rw [if_neg h]
  simp only [if_neg (show ¬ (page < 64) by omega), if_neg (show ¬ (page > 512) by omega), if_neg (show ¬ (leb < 0) by omega), if_neg (show ¬ (leb ≥ 256) by omega), if_neg (show ¬ (pages < 0) by omega), decide_eq_false (show ¬ (pages > 64) by omega)]
  refine Ev.succ ?_
  simp only [pumiceref05_Mapping.j0, Bool.false_eq_true, if_false]
  rw [wrapU64_of (by omega) (by omega), show pages % 256 = pages by omega]
  simp only [Option.bind_some]
  have h2 := rPut_ev leb 2 (by omega)
  rw [show clamp 2 = 2 from rfl] at h2
  have h8 := rPut_ev seq 8 hs
  rw [show clamp 8 = 8 from rfl] at h8
  refine Ev.bind h2 ?_
  simp only [if_pos (show ([77] : List Int).length + (putL 2 leb).length < 140737488355328 by rw [putL_length]; decide)]
  refine Ev.bind h8 ?_
  have hc := mapP_bytes leb seq pages (by omega)
  have hl := mapP_length leb seq pages
  simp only [if_pos (show ([77] ++ putL 2 leb : List Int).length + (putL 8 seq).length < 140737488355328 by rw [List.length_append, putL_length, putL_length]; decide), if_pos (show ([77] ++ putL 2 leb ++ putL 8 seq : List Int).length < 140737488355328 by simp only [List.length_append, putL_length, List.length_cons, List.length_nil]; decide)]
  exact Ev.bind (rImage_ev (mapP leb seq pages) hc (by omega) page (by omega)) (Ev.now _)
theorem rcount_is (n page : Int) (w : World) : Calls Tryd.prog 16 #[.int .i64 n, .int .i64 page] w fun e w' => ∃ v : Value, e = .returned (.tuple #[v, .int .i64 (countL n page).2]) ∧ Kd.R (Kd.int .u8) 5 w' w.heap.size (fun _ => True) v (countL n page).1 ∧ Below w.heap.size w w' := by
 obtain ⟨k, hk⟩ := (rCount_ev n page).rounds
 exact pumiceref05_Count.calls k n page _ _ w hk
theorem rmapping_is (leb seq pages page : Int) (hs : 0 ≤ seq) (w : World) : Calls Tryd.prog 17 #[.agg #[.int .i64 leb, .int .u64 seq, .int .i64 pages], .int .i64 page] w fun e w' => ∃ v : Value, e = .returned (.tuple #[v, .int .i64 (mapL leb seq pages page).2]) ∧ Kd.R (Kd.int .u8) 5 w' w.heap.size (fun _ => True) v (mapL leb seq pages page).1 ∧ Below w.heap.size w w' := by
 obtain ⟨k, hk⟩ := (rMapping_ev leb seq pages page hs).rounds
 exact pumiceref05_Mapping.calls k leb seq pages page _ _ w hk
section
variable (A : Option Addr) (c : Nat) (l : List Int) (w : World)
theorem unframe_is (hl : Bytes l) (hn : l.length ≤ 1000000) (hr : Kd.C (Kd.int .u8) w A l.length l) (hc : l.length ≤ c) : Calls Tryd.prog 71 #[.slice A l.length c] w fun e w' => ∃ v : Value, e = .returned (.tuple #[v, .int .i64 (unframeL l).2.1, .bool (unframeL l).2.2]) ∧ Kd.R (Kd.int .u8) 5 w' w.heap.size (fun _ => True) v (unframeL l).1 ∧ Below w.heap.size w w' := by
 obtain ⟨k, hk⟩ := (bUnframe_ev l hl (by omega)).rounds
 exact bits_Unframe.calls k A c l _ _ _ w hr hc hk
theorem get_is (hl : Bytes l) (hr : Kd.C (Kd.int .u8) w A l.length l) (hc : l.length ≤ c) : Calls Tryd.prog 75 #[.slice A l.length c] w fun e w' => e = .returned (.int .u64 (getL l)) ∧ Below w.heap.size w w' := by
 obtain ⟨k, hk⟩ := (bGet_ev l hl).rounds
 exact bits_Get.calls k A c l _ w hr hc hk
theorem blank_is (hn : l.length ≤ 9223372036854775806) (hr : Kd.C (Kd.int .u8) w A l.length l) (hc : l.length ≤ c) : Calls Tryd.prog 72 #[.slice A l.length c] w fun e w' => e = .returned (.bool (blankL l)) ∧ Below w.heap.size w w' := by
 obtain ⟨k, hk⟩ := (bBlank_ev l hn).rounds
 exact (bits_Blank.calls k A c l _ w hr hc hk).mono fun e w' h => ⟨h.1, h.2.below⟩
end
end Go.Proofs.YtdlimghdimkadaaDoor.PAll
namespace Go.Proofs.YtdlimghdimkadaaDoor.PAll
open Go.RowKit Go.Proofs.YtdlimghdimkadaaDoorW.PrintWords Go.Proofs.YtdlimghdimkadaaDoorW.PrintLast Go.Proofs.YtdlimghdimkadaaDoor.Plain Go.Extern.Stop Go.Stop Go.Extern
set_option linter.unusedVariables false
set_option linter.unusedSimpArgs false
theorem isTypeOf (v : Value) (w : World) : (Extern.ReflectliteType.typeOf #[.iface 158 v]).run Tryd.prog w = .ok (.iface 148 (.agg #[typeHandle Tryd.prog 158])) w := by kernel_rfl
theorem isComparable (w : World) : (callFunc 98 #[.agg #[typeHandle Tryd.prog 158]]).run Tryd.prog w = .ok (.value (.bool true)) w := by kernel_rfl
theorem isMethodComparable (v : Value) (w : World) : (Go.method 295 148 v "Comparable").run Tryd.prog w = .ok (98, v) w := by kernel_rfl
theorem isComp : (Tryd.prog.info? 158).map (·.comparable) = some true := by kernel_rfl
theorem isSize : (Tryd.prog.info? 183).map (·.size) = some 1 := by kernel_rfl
theorem noIsK (v : Value) (xT : TypeId) (w : World) : (Instr.typeAssert (.iface 137 v) xT 150 true).run Tryd.prog w = .ok (.tuple #[.nilIface, .bool false]) w := run_typeAssert_lacksB Tryd.underlying150 (by kernel_rfl) (by kernel_rfl) v xT w
theorem hasUnwrapK (v : Value) (xT : TypeId) (w : World) : (Instr.typeAssert (.iface 137 v) xT 153 true).run Tryd.prog w = .ok (.tuple #[.iface 137 v, .bool true]) w := run_typeAssert_hasB Tryd.underlying153 (by kernel_rfl) v xT w
theorem methodUnwrapK (v : Value) (w : World) : (Go.method 295 137 v "Unwrap").run Tryd.prog w = .ok (94, v) w := by kernel_rfl
abbrev gNone (w : World) (a : Addr) : Prop := w.cell? ⟨0, 0, none⟩ = some (.iface 158 (.pointer (some a)))
set_option maxRecDepth 100000 in
theorem is_none_same (a : Addr) (w : World) :
  Calls Tryd.prog 69 #[.iface 158 (.pointer (some a)), .iface 158 (.pointer (some a))] w fun e w' => e = .returned (.bool true) ∧ Below w.heap.size w w' := by
 obtain ⟨i, hi, hcmp⟩ := Option.map_eq_some_iff.1 isComp
 obtain ⟨j, hj, hjs⟩ := Option.map_eq_some_iff.1 isSize
 have h8 := @run_callFunc_extern Tryd.prog 73 _ Extern.ReflectliteType.typeOf Tryd.func73 (by kernel_rfl) (by kernel_rfl) (by kernel_rfl) (by kernel_rfl)
 have tT := isTypeOf
 have cT := isComparable
 have mR := isMethodComparable
 have heq := run_eql_iface_ptr_same (P := Tryd.prog) w a Tryd.underlying129 Tryd.underlying158 hi hcmp hj
 go_enter Tryd.func69, Tryd.ntmps69
 go_wp2
 refine wp_loop_rounds 1 ?_
 rw [rounds_succ]
 go_wp2
 go_ret
 exact ⟨rfl, Below.refl _ _⟩
set_option maxRecDepth 100000 in
theorem is_none_nil (b : Addr) (w : World) :
  Calls Tryd.prog 69 #[.nilIface, .iface 158 (.pointer (some b))] w fun e w' => e = .returned (.bool false) ∧ Below w.heap.size w w' := by
 have hn := run_eql_iface_nil_left (P := Tryd.prog) w 158 (.pointer (some b)) Tryd.underlying129
 go_enter Tryd.func69, Tryd.ntmps69
 go_wp2
 go_ret
 exact ⟨rfl, Below.refl _ _⟩
set_option maxRecDepth 100000 in
theorem is_none_kind (k b : Addr) (w : World) (hg : gNone w b) :
  Calls Tryd.prog 69 #[.iface 137 (.pointer (some k)), .iface 158 (.pointer (some b))] w fun e w' => e = .returned (.bool true) ∧ Below w.heap.size w w' := by
 obtain ⟨i, hi, hcmp⟩ := Option.map_eq_some_iff.1 isComp
 obtain ⟨j, hj, hjs⟩ := Option.map_eq_some_iff.1 isSize
 have h8 := @run_callFunc_extern Tryd.prog 73 _ Extern.ReflectliteType.typeOf Tryd.func73 (by kernel_rfl) (by kernel_rfl) (by kernel_rfl) (by kernel_rfl)
 have tT := isTypeOf
 have cT := isComparable
 have mR := isMethodComparable
 have nW := noIsK
 have uW := hasUnwrapK
 have mU := methodUnwrapK
 have heq := run_eql_iface_ptr_same (P := Tryd.prog) w b Tryd.underlying129 Tryd.underlying158 hi hcmp hj
 have hty := run_eql_iface_types (P := Tryd.prog) 137 158 (.pointer (some k)) (.pointer (some b)) Tryd.underlying129 (by decide) w
 have hnn := fun v => run_eql_iface_nil_left (P := Tryd.prog) w 158 v Tryd.underlying129
 go_enter Tryd.func69, Tryd.ntmps69
 go_wp2
 refine wp_loop_rounds 2 ?_
 rw [rounds_succ]
 go_wp2
 rw [rounds_succ]
 go_wp2
 go_ret
 exact ⟨rfl, Below.refl _ _⟩
end Go.Proofs.YtdlimghdimkadaaDoor.PAll
namespace Go.Proofs.YtdlimghdimkadaaDoor.PAll
open Go.RowKit Go.Proofs.YtdlimghdimkadaaDoorW.PrintWords Go.Proofs.YtdlimghdimkadaaDoorW.PrintLast Go.Proofs.YtdlimghdimkadaaDoorW.PrintMore Go.Proofs.YtdlimghdimkadaaDoor.Plain
set_option linter.unusedVariables false
set_option linter.unusedSimpArgs false
attribute [local go_sem] max2_int min2_int max_two min_two max_three min_three max_four min_four
theorem infoB : ∃ i, Tryd.prog.info? 5 = some i ∧ i.size = 1 := by
 have h : (Tryd.prog.info? 5).map (·.size) = some 1 := by kernel_rfl
 obtain ⟨i, hi, hs⟩ := Option.map_eq_some_iff.1 h
 exact ⟨i, hi, hs⟩
theorem sl_from (A : Option Addr) (c : Nat) (l : List Int) (j : Int) (h0 : 0 ≤ j) (hj : j ≤ l.length) (hc : l.length ≤ c) :
  ∃ (A' : Option Addr) (c' : Nat), (∀ W : World, (Instr.slice 39 (.slice A l.length c) (some (.int .i64 j)) none none).run Tryd.prog W = .ok (.slice A' (l.drop j.toNat).length c') W) ∧ (l.drop j.toNat).length ≤ c' ∧ ∀ w : World, Kd.C kB w A l.length l → Kd.C kB w A' (l.drop j.toNat).length (l.drop j.toNat) := by
 obtain ⟨i, hi, hs⟩ := infoB
 refine ⟨if c = j.toNat then A else A.map (·.add (j.toNat * 1)), c - j.toNat, fun W => ?_, by rw [List.length_drop]; omega, fun w h => Kd.C_drop h (by omega) hc⟩
 rw [List.length_drop]
 exact cut_from 39 5 .i64 Tryd.underlying39 hi 1 hs A l.length c j h0 hj W
theorem sl_to (A : Option Addr) (c : Nat) (l : List Int) (j : Int) (h0 : 0 ≤ j) (hj : j ≤ l.length) (hc : l.length ≤ c) :
  (∀ W : World, (Instr.slice 39 (.slice A l.length c) none (some (.int .i64 j)) none).run Tryd.prog W = .ok (.slice A (l.take j.toNat).length c) W) ∧ (l.take j.toNat).length ≤ c ∧ ∀ w : World, Kd.C kB w A l.length l → Kd.C kB w A (l.take j.toNat).length (l.take j.toNat) := by
 obtain ⟨i, hi, hs⟩ := infoB
 refine ⟨fun W => ?_, by rw [List.length_take]; omega, fun w h => Kd.C_take h (by omega)⟩
 rw [List.length_take, show min j.toNat l.length = j.toNat by omega]
 exact cut_to 39 5 .i64 Tryd.underlying39 hi A l.length c j h0 hj hc W
theorem cell_far {W : World} {q : Addr} {x : Value} (h1 : W.cell? q = some x) {g t : Nat} {fr : Nat × Nat} {cs : Array Value} (hx : W.heap[g]? = some (.cells cs t fr)) (hno : ∀ k : Nat, cs[k]? ≠ some x) (k : Nat) (v : Value) : (W.setCell ⟨g, k, none⟩ v).cell? q = some x := by
 have hne : q.block ≠ g := fun e => by
  unfold World.cell? at h1
  rw [e, hx] at h1
  simp only at h1
  split at h1
  ·cases h1
  ·exact hno _ h1
 unfold World.cell? at h1 ⊢
 rw [Below.heap_setCell W ⟨g, k, none⟩ v _ hne]
 exact h1
theorem C_far {W : World} {A : Option Addr} {l : List Int} (h : Kd.C kB W A l.length l) {g t : Nat} {fr : Nat × Nat} {cs : Array Value} (hx : W.heap[g]? = some (.cells cs t fr)) (hno : ∀ k : Nat, ∀ n : Int, cs[k]? ≠ some (.int .u8 n)) (k : Nat) (v : Value) : Kd.C kB (W.setCell ⟨g, k, none⟩ v) A l.length l := by
 refine ⟨h.1, h.2.1, fun hp => ?_⟩
 obtain ⟨ad, hA, hr⟩ := h.2.2 hp
 refine ⟨ad, hA, fun j x hj => ?_⟩
 obtain ⟨cs2, hs, hK, hc⟩ := hr j x hj
 refine ⟨cs2, hs, hK, fun i u hu => ?_⟩
 have h1 := hc i u hu
 have hcs : cs2 = [.int .u8 x] := hK
 subst hcs
 have hu2 : u = .int .u8 x := by
  cases i with
  | zero => simpa using hu.symm
  | succ i => simp at hu
 subst hu2
 exact cell_far h1 hx (fun q => hno q x) k v
def Opened (w w' : World) (a : Addr) (v : Value) : Option (List Int) → Prop
 | none => ∃ x, v = .tuple #[.pointer none, x] ∧ (x = .iface 158 (.pointer (some a)) ∨ ∃ k : Addr, x = .iface 137 (.pointer (some k)))
 | some p => ∃ (g : Nat) (B : Option Addr) (c : Nat), v = .tuple #[.pointer (some ⟨g, 0, none⟩), .nilIface] ∧ w.heap.size ≤ g ∧ w'.heap[g]? = some (.cells #[.slice B (p.drop 1).length c] 141 (0, 0)) ∧ (p.drop 1).length ≤ c ∧ Kd.C kB w' B (p.drop 1).length (p.drop 1)
set_option maxRecDepth 100000 in
set_option maxHeartbeats 8000000 in
theorem open_is (A : Option Addr) (c : Nat) (l : List Int) (a : Addr) (kind : Int) (n : Nat) (w : World) (hn : 0 < n) (hl : Bytes l) (hr : Kd.C kB w A l.length l) (hc : l.length ≤ c) (hg : gNone w a) :
  Calls Tryd.prog 68 #[.slice A l.length c, .int .u8 kind, .int .i64 n] w fun e w' => ∃ v, e = .returned v ∧ Opened w w' a v (openL l kind n) ∧ Below w.heap.size w w' := by
 have HR := Aside0.mk hr
 have HC := Aside0.mk hc
 have HL := Aside0.mk hl
 have HG := Aside0.mk hg
 have HN := Aside0.mk hn
 clear hr hc hl hg hn
 by_cases h64 : l.length < 64 ∨ 512 < l.length
 ·have hO : openL l kind n = none := by unfold openL; rw [if_pos h64]
  rw [hO]
  have HG2 : w.cell? ⟨0, 0, none⟩ = some (.iface 158 (.pointer (some a))) := HG.out
  by_cases h1 : l.length < 64
  ·have d0 : decide ((l.length : Int) < 64) = true := decide_eq_true (by omega)
   have d1 : decide (l.length < 64) = true := decide_eq_true h1
   clear h64 h1 hO
   go_enter Tryd.func68, Tryd.ntmps68
   go_wp2
   go_region
   go_wp2
   go_ret2
   exact ⟨_, rfl, ⟨_, rfl, .inl rfl⟩, below_drew (Below.refl _ _)⟩
  ·have d0 : decide ((l.length : Int) < 64) = false := decide_eq_false (by omega)
   have d1 : decide (l.length < 64) = false := decide_eq_false h1
   have d2 : decide (512 < (l.length : Int)) = true := decide_eq_true (by omega)
   have d3 : decide (512 < l.length) = true := decide_eq_true (by omega)
   clear h64 h1 hO
   go_enter Tryd.func68, Tryd.ntmps68
   go_wp2
   go_region
   go_wp2
   go_ret2
   exact ⟨_, rfl, ⟨_, rfl, .inl rfl⟩, below_drew (Below.refl _ _)⟩
 ·have d0 : decide ((l.length : Int) < 64) = false := decide_eq_false (by omega)
  have d1 : decide (l.length < 64) = false := decide_eq_false (by omega)
  have d2 : decide (512 < (l.length : Int)) = false := decide_eq_false (by omega)
  have d3 : decide (512 < l.length) = false := decide_eq_false (by omega)
  have hO : openL l kind n = if (unframeL l).2.2 = true ∧ (unframeL l).1.length = n ∧ (unframeL l).1.getD 0 0 = kind ∧ blankL (l.drop (unframeL l).2.1.toNat) = true then some (unframeL l).1 else none := by
   unfold openL
   rw [if_neg h64]
  have HU := Aside0.mk (unframe_is A c l w HL.out (by omega) HR.out HC.out)
  have hpb := unframe_bytes HL.out
  have hln : (l.drop (unframeL l).2.1.toNat).length ≤ 9223372036854775806 := by rw [List.length_drop]; omega
  have hen := unframe_end HL.out
  rw [hO]
  clear h64 hO
  generalize (unframeL l).1 = p at HU hpb ⊢
  generalize (unframeL l).2.1 = en at HU hen hln ⊢
  generalize (unframeL l).2.2 = ok at HU ⊢
  obtain ⟨A2, c2, hcut, hc2, hC2⟩ := sl_from A c l en hen.1 hen.2 HC.out
  generalize l.drop en.toNat = dl at hcut hc2 hC2 hln ⊢
  have HB2 := Aside0.mk (fun (w' : World) (hb : Below w.heap.size w w') => blank_is A2 c2 dl w' hln (hC2 w' (Kd.C_below HR.out hb)) hc2)
  have HE := Aside0.mk hen
  have hu63 := Tryd.underlying139
  have hu65 := Tryd.underlying141
  clear hC2 hc2 hen hln
  cases ok with
  | false =>
   rw [if_neg (by rintro ⟨h, _⟩; cases h)]
   go_enter Tryd.func68, Tryd.ntmps68
   go_upto_region 4 with (first
    | (go_at_call 71; (with_reducible refine HU.out.mono ?_); rintro e w1 ⟨v1, rfl, hr1, hb1⟩; obtain ⟨A1, c1, rfl, hl1, hC1⟩ := Kd.R_reads hr1; have HC1 := Aside0.mk hC1; have HB1 := Aside0.mk hb1; have HL1 := Aside0.mk hl1; have HBL := Aside0.mk (HB2.out w1 hb1); clear hr1 hC1 hb1 hl1))
   go_wp2
   go_ret2
   exact ⟨_, rfl, ⟨_, rfl, .inr ⟨_, rfl⟩⟩, below_alloc HB1.out _⟩
  | true =>
   by_cases hpn : p.length = n
   ·subst hpn
    have e1 : ((p.length : Int) == (p.length : Int)) = true := by simp
    have e2 : ((p.length : Int) != (p.length : Int)) = false := by simp
    by_cases hk : p.getD 0 0 = kind
    ·have e3 : (p.getD 0 0 == kind) = true := beq_iff_eq.mpr hk
     have e4 : (p.getD 0 0 != kind) = false := bne_eq_false_iff_eq.mpr hk
     cases hbl : blankL dl with
     | false =>
      rw [if_neg (by rintro ⟨_, _, _, h⟩; cases h)]
      rw [hbl] at HB2
      clear hbl
      go_enter Tryd.func68, Tryd.ntmps68
      go_upto_region 4 with (first
       | (go_at_call 71; (with_reducible refine HU.out.mono ?_); rintro e w1 ⟨v1, rfl, hr1, hb1⟩; obtain ⟨A1, c1, rfl, hl1, hC1⟩ := Kd.R_reads hr1; have HC1 := Aside0.mk hC1; have HB1 := Aside0.mk hb1; have HL1 := Aside0.mk hl1; have HBL := Aside0.mk (HB2.out w1 hb1); clear hr1 hC1 hb1 hl1))
      have hp0 : 0 < p.length := by have := HN.out; omega
      obtain ⟨ad, hA1, hx0⟩ := Kd.at_int HC1.out 0 (by decide) (by omega)
      subst hA1
      have hx1 : w1.cell? ad = some (.int .u8 (p.getD 0 0)) := by simpa [Addr.add, rd] using hx0
      clear hx0
      have hq0 : ((0 : Int) < (p.length : Int)) = True := eq_true (by omega)
      have hq1 : (0 < p.length) = True := eq_true hp0
      generalize p.getD 0 0 = p0 at hx1 e3 e4 hk
      clear hk
      go_wp2_with (first
       | (go_at_call 72; (with_reducible refine HBL.out.mono ?_); rintro e w2 ⟨rfl, hb2⟩; have HB3 := Aside0.mk (below_step HB1.out hb2); clear hb2))
      go_ret2
      exact ⟨_, rfl, ⟨_, rfl, .inr ⟨_, rfl⟩⟩, below_alloc HB3.out _⟩
     | true =>
      rw [if_pos ⟨rfl, rfl, hk, rfl⟩]
      rw [hbl] at HB2
      clear hbl
      go_enter Tryd.func68, Tryd.ntmps68
      go_upto_region 4 with (first
       | (go_at_call 71; (with_reducible refine HU.out.mono ?_); rintro e w1 ⟨v1, rfl, hr1, hb1⟩; obtain ⟨A1, c1, rfl, hl1, hC1⟩ := Kd.R_reads hr1; have HC1 := Aside0.mk hC1; have HB1 := Aside0.mk hb1; have HL1 := Aside0.mk hl1; have HBL := Aside0.mk (HB2.out w1 hb1); clear hr1 hC1 hb1 hl1))
      have hp0 : 0 < p.length := by have := HN.out; omega
      obtain ⟨ad, hA1, hx0⟩ := Kd.at_int HC1.out 0 (by decide) (by omega)
      subst hA1
      have hx1 : w1.cell? ad = some (.int .u8 (p.getD 0 0)) := by simpa [Addr.add, rd] using hx0
      clear hx0
      have hq0 : ((0 : Int) < (p.length : Int)) = True := eq_true (by omega)
      have hq1 : (0 < p.length) = True := eq_true hp0
      generalize p.getD 0 0 = p0 at hx1 e3 e4 hk
      obtain ⟨A5, c5, hcut5, hc5, hC5⟩ := sl_from (some ad) c1 p 1 (by decide) (by omega) HL1.out
      obtain ⟨q, hq⟩ : ∃ q, q = p.drop (1 : Int).toNat := ⟨_, rfl⟩
      have HQ := Aside0.mk hq
      rw [← hq] at hcut5 hc5 hC5
      have HC5 := Aside0.mk (hC5 w1 HC1.out)
      have HL5 := Aside0.mk hc5
      clear hC5 hc5 hk hq
      go_wp2_with (first
       | (go_at_call 72; (with_reducible refine HBL.out.mono ?_); rintro e w2 ⟨rfl, hb2⟩; have HB3 := Aside0.mk (below_step HB1.out hb2); have HB4 := Aside0.mk hb2; clear hb2))
      go_ret2
      have hq := HQ.out
      subst hq
      exact ⟨_, rfl, ⟨_, A5, c5, rfl, below_size HB3.out, new_blk _ _ _, HL5.out, Kd.C_below HC5.out (below_alloc HB4.out _)⟩, below_alloc HB3.out _⟩
    ·rw [if_neg (by rintro ⟨_, _, h, _⟩; exact hk h)]
     have e3 : (p.getD 0 0 == kind) = false := beq_eq_false_iff_ne.mpr hk
     have e4 : (p.getD 0 0 != kind) = true := bne_iff_ne.mpr hk
     go_enter Tryd.func68, Tryd.ntmps68
     go_upto_region 4 with (first
      | (go_at_call 71; (with_reducible refine HU.out.mono ?_); rintro e w1 ⟨v1, rfl, hr1, hb1⟩; obtain ⟨A1, c1, rfl, hl1, hC1⟩ := Kd.R_reads hr1; have HC1 := Aside0.mk hC1; have HB1 := Aside0.mk hb1; have HL1 := Aside0.mk hl1; have HBL := Aside0.mk (HB2.out w1 hb1); clear hr1 hC1 hb1 hl1))
     have hp0 : 0 < p.length := by have := HN.out; omega
     obtain ⟨ad, hA1, hx0⟩ := Kd.at_int HC1.out 0 (by decide) (by omega)
     subst hA1
     have hx1 : w1.cell? ad = some (.int .u8 (p.getD 0 0)) := by simpa [Addr.add, rd] using hx0
     clear hx0
     have hq0 : ((0 : Int) < (p.length : Int)) = True := eq_true (by omega)
     have hq1 : (0 < p.length) = True := eq_true hp0
     generalize p.getD 0 0 = p0 at hx1 e3 e4 hk
     clear hk
     go_wp2
     go_ret2
     exact ⟨_, rfl, ⟨_, rfl, .inr ⟨_, rfl⟩⟩, below_alloc HB1.out _⟩
   ·rw [if_neg (by rintro ⟨_, h, _⟩; exact hpn h)]
    have e1 : ((p.length : Int) == (n : Int)) = false := by simp; omega
    have e2 : ((p.length : Int) != (n : Int)) = true := by simp; omega
    clear hpn
    go_enter Tryd.func68, Tryd.ntmps68
    go_upto_region 4 with (first
     | (go_at_call 71; (with_reducible refine HU.out.mono ?_); rintro e w1 ⟨v1, rfl, hr1, hb1⟩; obtain ⟨A1, c1, rfl, hl1, hC1⟩ := Kd.R_reads hr1; have HC1 := Aside0.mk hC1; have HB1 := Aside0.mk hb1; have HL1 := Aside0.mk hl1; have HBL := Aside0.mk (HB2.out w1 hb1); clear hr1 hC1 hb1 hl1))
    go_wp2
    go_ret2
    exact ⟨_, rfl, ⟨_, rfl, .inr ⟨_, rfl⟩⟩, below_alloc HB1.out _⟩
end Go.Proofs.YtdlimghdimkadaaDoor.PAll
namespace Go.Proofs.YtdlimghdimkadaaDoor.PAll
open Go.RowKit Go.Proofs.YtdlimghdimkadaaDoorW.PrintWords Go.Proofs.YtdlimghdimkadaaDoorW.PrintLast Go.Proofs.YtdlimghdimkadaaDoorW.PrintMore Go.Proofs.YtdlimghdimkadaaDoor.Plain
set_option linter.unusedVariables false
set_option linter.unusedSimpArgs false
attribute [local go_sem] max2_int min2_int max_two min_two max_three min_three max_four min_four
def Only (g : Nat) (w w' : World) : Prop := ∀ (k : Nat) (cs : Array Value) (t : Nat) (fr : Nat × Nat), k ≠ g → w.heap[k]? = some (.cells cs t fr) → w'.heap[k]? = some (.cells cs t fr)
theorem Only.of_below {g : Nat} {w w' : World} (h : Below w.heap.size w w') : Only g w w' := fun k cs t fr _ hk => by rw [h.block k (blk_lt hk)]; exact hk
theorem Only.set {g : Nat} {w w' : World} (h : Only g w w') (k : Nat) (v : Value) : Only g w (w'.setCell ⟨g, k, none⟩ v) := fun x cs t fr hne hx => (Below.heap_setCell w' ⟨g, k, none⟩ v x hne).trans (h x cs t fr hne hx)
set_option maxRecDepth 100000 in
set_option maxHeartbeats 8000000 in
theorem take_is {w0 w : World} (hb : Below w0.heap.size w0 w) {g : Nat} (hge : w0.heap.size ≤ g) (B : Option Addr) (c : Nat) (l : List Int) (hx : w.heap[g]? = some (.cells #[.slice B l.length c] 141 (0, 0))) (hl : Bytes l) (hc : l.length ≤ c) (hC : Kd.C kB w B l.length l) (n : Nat) (hn : n ≤ l.length) (h8 : n ≤ 100) :
  Calls Tryd.prog 70 #[.pointer (some ⟨g, 0, none⟩), .int .i64 n] w fun e w' => e = .returned (.int .u64 (getL (l.take n))) ∧ Below w0.heap.size w0 w' ∧ Only g w w' ∧ ∃ (B' : Option Addr) (c' : Nat), w'.heap[g]? = some (.cells #[.slice B' (l.drop n).length c'] 141 (0, 0)) ∧ (l.drop n).length ≤ c' ∧ Kd.C kB w' B' (l.drop n).length (l.drop n) := by
 obtain ⟨hcut1, hc1, hC1⟩ := sl_to B c l (n : Int) (by omega) (by omega) hc
 obtain ⟨B2, c2, hcut2, hc2, hC2⟩ := sl_from B c l (n : Int) (by omega) (by omega) hc
 have hD := hC2 w hC
 have HGT := Aside0.mk (get_is B c (l.take (n : Int).toNat) w (hl.take _) (hC1 w hC) hc1)
 have y0 := Joins.cell_of_block hx 0
 have fo := blk_frozen hx 0
 have HX := Aside0.mk hx
 have HB := Aside0.mk hb
 have HGE := Aside0.mk hge
 have hm1 : decide ((n : Int) ≤ (l.length : Int)) = true := decide_eq_true (by omega)
 have hm2 : decide ((n : Int) < (l.length : Int)) = true ∨ n = l.length := by
  rcases Nat.lt_or_ge n l.length with h | h
  ·exact .inl (decide_eq_true (by omega))
  ·exact .inr (by omega)
 have hmin : min (n : Int) (l.length : Int) = (n : Int) := by omega
 have hu := Tryd.underlying39
 obtain ⟨t, ht⟩ : ∃ t, t = l.take (n : Int).toNat := ⟨_, rfl⟩
 obtain ⟨d, hd⟩ : ∃ d, d = l.drop (n : Int).toNat := ⟨_, rfl⟩
 rw [← ht] at hcut1 HGT
 rw [← hd] at hcut2 hc2 hD
 rw [Int.toNat_natCast] at ht hd
 rw [← ht, ← hd]
 have HD := Aside0.mk hD
 have HC2 := Aside0.mk hc2
 clear hx hb hge hn h8 hl hC hC1 hC2 hc1 hc2 hD ht hd hc hm2
 go_enter Tryd.func70, Tryd.ntmps70
 go_upto_region 3 with (first
  | (go_at_call 75; (with_reducible refine HGT.out.mono ?_); rintro e w1 ⟨rfl, hb1⟩; have HX1 := Aside0.mk (keep_below HX.out hb1); have HB1 := Aside0.mk hb1; clear hb1))
 clear y0 fo
 have y0 := Joins.cell_of_block HX1.out 0
 have fo := blk_frozen HX1.out 0
 go_wp2
 go_ret
 exact ⟨rfl, below_set (below_step HB.out HB1.out) HGE.out, (Only.of_below HB1.out).set 0 _, B2, c2, blk_set HX1.out 0 _, HC2.out, C_far (Kd.C_below HD.out HB1.out) HX1.out (fun k q h => by
  match k, h with
  | 0, h => simp at h
  | k + 1, h => simp at h) 0 _⟩
theorem getL_u64 {l : List Int} (hl : Bytes l) (k : Nat) (hk : k ≤ 4) (hn : l.length ≤ k) : 0 ≤ getL l ∧ getL l < 4294967296 := by
 have h := getL_bd hl
 refine ⟨h.1, Int.lt_of_lt_of_le h.2 ?_⟩
 have h3 : min l.length 8 ≤ 4 := by omega
 generalize min l.length 8 = m at h3 ⊢
 rcases (show m = 0 ∨ m = 1 ∨ m = 2 ∨ m = 3 ∨ m = 4 by omega) with rfl | rfl | rfl | rfl | rfl <;> decide
set_option maxRecDepth 100000 in
set_option maxHeartbeats 8000000 in
theorem parseCount_is (A : Option Addr) (c : Nat) (l : List Int) (a : Addr) (w : World) (hl : Bytes l) (hr : Kd.C kB w A l.length l) (hc : l.length ≤ c) (hg : gNone w a) :
  Calls Tryd.prog 57 #[.slice A l.length c] w fun e w' => e = .returned (.tuple #[.int .i64 (parseCountL l).1, .bool (parseCountL l).2]) ∧ Below w.heap.size w w' := by
 have HO := Aside0.mk (show Calls Tryd.prog 68 #[.slice A l.length c, .int .u8 69, .int .i64 5] w _ from open_is A c l a 69 5 w (by decide) hl hr hc hg)
 have HG := Aside0.mk hg
 cases ho : openL l 69 5 with
 | none =>
  have hP : parseCountL l = (0, false) := by unfold parseCountL; rw [ho]
  rw [hP]
  rw [ho] at HO
  clear hP ho hl hr hc hg
  go_enter Tryd.func57, Tryd.ntmps57
  go_upto_region 2 with (first
   | (go_at_call 68; (with_reducible refine HO.out.mono ?_); rintro e w1 ⟨v, rfl, ⟨x, rfl, hx⟩, hb1⟩; have HX := Aside0.mk hx; have HB1 := Aside0.mk hb1; clear hx hb1))
  have hg1 : gNone w1 a := cell_below HG.out HB1.out
  have HG1 := Aside0.mk hg1
  change w1.cell? ⟨0, 0, none⟩ = some (.iface 158 (.pointer (some a))) at hg1
  rcases HX.out with rfl | ⟨k, rfl⟩
  ·clear HX
   go_wp2_with (first
    | (go_at_call 69; (with_reducible refine (is_none_same a _).mono ?_); rintro e w2 ⟨rfl, hb2⟩; have HB2 := Aside0.mk (below_step HB1.out hb2); clear hb2))
   go_ret2
   exact ⟨rfl, HB2.out⟩
  ·clear HX
   have HI := Aside0.mk (is_none_kind k a w1 HG1.out)
   go_wp2_with (first
    | (go_at_call 69; (with_reducible refine HI.out.mono ?_); rintro e w2 ⟨rfl, hb2⟩; have HB2 := Aside0.mk (below_step HB1.out hb2); clear hb2))
   go_ret2
   exact ⟨rfl, HB2.out⟩
 | some p =>
  obtain ⟨hpb, hpl, hpk⟩ := open_bytes hl ho
  have hd4 : (p.drop 1).length = 4 := by rw [List.length_drop, hpl]
  have hP : parseCountL l = if 2147483647 < getL (p.drop 1) then (0, false) else (getL (p.drop 1), true) := by unfold parseCountL; rw [ho]
  rw [hP]
  rw [ho] at HO
  have hbd := getL_u64 (hpb.drop 1) 4 (by decide) (by omega)
  have htk : (p.drop 1).take 4 = p.drop 1 := List.take_of_length_le (by omega)
  have hwr : IntKind.i64.wrap (getL (p.drop 1)) = getL (p.drop 1) := by rw [i64_w]; exact wrap64_of (by omega) (by omega)
  have HT := Aside0.mk (fun (w0 w1 : World) (hb : Below w0.heap.size w0 w1) (g : Nat) (hge : w0.heap.size ≤ g) (B : Option Addr) (c : Nat) (hx : w1.heap[g]? = some (.cells #[.slice B (p.drop 1).length c] 141 (0, 0))) (hc : (p.drop 1).length ≤ c) (hC : Kd.C kB w1 B (p.drop 1).length (p.drop 1)) => show Calls Tryd.prog 70 #[.pointer (some ⟨g, 0, none⟩), .int .i64 4] w1 (fun e w' => e = .returned (.int .u64 (getL (p.drop 1))) ∧ Below w0.heap.size w0 w') from (take_is hb hge B c (p.drop 1) hx (hpb.drop 1) hc hC 4 (by omega) (by decide)).mono fun e w' h => ⟨by rw [← htk]; exact h.1, h.2.1⟩)
  generalize getL (p.drop 1) = x at hbd hwr HT ⊢
  clear hP ho hl hr hc hg htk hpl hpk
  by_cases hbig : 2147483647 < x
  ·have d0 : decide (2147483647 < x) = true := decide_eq_true hbig
   rw [if_pos hbig]
   clear hbig hbd
   go_enter Tryd.func57, Tryd.ntmps57
   go_upto_region 2 with (first
    | (go_at_call 68; (with_reducible refine HO.out.mono ?_); rintro e w1 ⟨v, rfl, ⟨g, B, c2, rfl, hge, hx, hc2, hC2⟩, hb1⟩; have HB1 := Aside0.mk hb1; have HT1 := Aside0.mk (fun (w2 : World) (hb : Below w1.heap.size w1 w2) => HT.out w w2 (below_step hb1 hb) g hge B c2 (keep_below hx hb) hc2 (Kd.C_below hC2 hb)); clear hx hb1 hc2 hC2 hge))
   have hg1 : w1.cell? ⟨0, 0, none⟩ = some (.iface 158 (.pointer (some a))) := cell_below HG.out HB1.out
   go_wp2_with (first
    | (go_at_call 69; (with_reducible refine (is_none_nil a _).mono ?_); rintro e w2 ⟨rfl, hb2⟩; have HB2 := Aside0.mk hb2; have HT2 := Aside0.mk (HT1.out w2 hb2); clear hb2)
    | (go_at_call 70; (with_reducible refine HT2.out.mono ?_); rintro e w3 ⟨rfl, hb3⟩; have HB3 := Aside0.mk hb3; clear hb3))
   go_ret2
   exact ⟨rfl, HB3.out⟩
  ·have d0 : decide (2147483647 < x) = false := decide_eq_false hbig
   rw [if_neg hbig]
   clear hbig hbd
   go_enter Tryd.func57, Tryd.ntmps57
   go_upto_region 2 with (first
    | (go_at_call 68; (with_reducible refine HO.out.mono ?_); rintro e w1 ⟨v, rfl, ⟨g, B, c2, rfl, hge, hx, hc2, hC2⟩, hb1⟩; have HB1 := Aside0.mk hb1; have HT1 := Aside0.mk (fun (w2 : World) (hb : Below w1.heap.size w1 w2) => HT.out w w2 (below_step hb1 hb) g hge B c2 (keep_below hx hb) hc2 (Kd.C_below hC2 hb)); clear hx hb1 hc2 hC2 hge))
   have hg1 : w1.cell? ⟨0, 0, none⟩ = some (.iface 158 (.pointer (some a))) := cell_below HG.out HB1.out
   go_wp2_with (first
    | (go_at_call 69; (with_reducible refine (is_none_nil a _).mono ?_); rintro e w2 ⟨rfl, hb2⟩; have HB2 := Aside0.mk hb2; have HT2 := Aside0.mk (HT1.out w2 hb2); clear hb2)
    | (go_at_call 70; (with_reducible refine HT2.out.mono ?_); rintro e w3 ⟨rfl, hb3⟩; have HB3 := Aside0.mk hb3; clear hb3))
   go_ret2
   exact ⟨rfl, HB3.out⟩
theorem set3 {W : World} {g t : Nat} {a b c : Value} (h : W.heap[g]? = some (.cells #[a, b, c] t (0, 0))) (x y z : Value) : (((W.setCell ⟨g, 0, none⟩ x).setCell ⟨g, 1, none⟩ y).setCell ⟨g, 2, none⟩ z).heap[g]? = some (.cells #[x, y, z] t (0, 0)) :=
 blk_set (blk_set (blk_set h 0 x) 1 y) 2 z
set_option maxRecDepth 100000 in
set_option maxHeartbeats 8000000 in
theorem parseMap_is (A : Option Addr) (c : Nat) (l : List Int) (a : Addr) (w : World) (hl : Bytes l) (hr : Kd.C kB w A l.length l) (hc : l.length ≤ c) (hg : gNone w a) :
  Calls Tryd.prog 58 #[.slice A l.length c] w fun e w' => e = .returned (.tuple #[.agg #[.int .i64 (parseMapL l).1.1, .int .u64 (parseMapL l).1.2.1, .int .i64 (parseMapL l).1.2.2], .bool (parseMapL l).2]) ∧ Below w.heap.size w w' := by
 have HO := Aside0.mk (fun (w' : World) (hb : Below w.heap.size w w') => show Calls Tryd.prog 68 #[.slice A l.length c, .int .u8 77, .int .i64 12] w' _ from open_is A c l a 77 12 w' (by decide) hl (Kd.C_below hr hb) hc (cell_below hg hb))
 have HG := Aside0.mk hg
 have hu30 := Tryd.underlying115
 cases ho : openL l 77 12 with
 | none =>
  have hP : parseMapL l = ((0, 0, 0), false) := by unfold parseMapL; rw [ho]
  rw [hP]
  rw [ho] at HO
  clear hP ho hl hr hc hg
  go_enter Tryd.func58, Tryd.ntmps58
  go_upto_region 1 with (fail)
  generalize hW : w.alloc (.cells #[.int .i64 0, .int .u64 0, .int .i64 0] 115) = wa
  have hba : Below w.heap.size w wa := by rw [← hW]; exact below_alloc (Below.refl _ _) _
  have hxa : wa.heap[w.heap.size]? = some (.cells #[.int .i64 0, .int .u64 0, .int .i64 0] 115 (0, 0)) := by rw [← hW]; exact new_blk _ _ _
  obtain ⟨gr, hgr⟩ : ∃ gr, gr = w.heap.size := ⟨_, rfl⟩
  rw [← hgr] at hxa ⊢
  have HGR := Aside0.mk (Nat.le_of_eq hgr.symm)
  have HXA := Aside0.mk hxa
  have HO1 := Aside0.mk (HO.out wa hba)
  have HBA := Aside0.mk hba
  clear hW hba hxa hgr
  go_upto_region 2 with (first
   | (go_at_call 68; (with_reducible refine HO1.out.mono ?_); rintro e w1 ⟨v, rfl, ⟨x, rfl, hx⟩, hb1⟩; have HX := Aside0.mk hx; have HB1 := Aside0.mk (below_step HBA.out hb1); have HXB := Aside0.mk (keep_below HXA.out hb1); clear hx hb1))
  have hg1 : gNone w1 a := cell_below HG.out HB1.out
  have HG1 := Aside0.mk hg1
  change w1.cell? ⟨0, 0, none⟩ = some (.iface 158 (.pointer (some a))) at hg1
  have HIS : Aside0 (∀ x, (x = .iface 158 (.pointer (some a)) ∨ ∃ k : Addr, x = .iface 137 (.pointer (some k))) → Calls Tryd.prog 69 #[x, .iface 158 (.pointer (some a))] w1 fun e w' => e = .returned (.bool true) ∧ Below w1.heap.size w1 w') := ⟨fun x hx => by
   rcases hx with rfl | ⟨k, rfl⟩
   ·exact is_none_same a _
   ·exact is_none_kind k a w1 HG1.out⟩
  have HI := Aside0.mk (HIS.out x HX.out)
  clear HIS HX
  go_upto_region 3 with (first
   | (go_at_call 69; (with_reducible refine HI.out.mono ?_); rintro e w2 ⟨rfl, hb2⟩; have HB2 := Aside0.mk (below_step HB1.out hb2); have HXC := Aside0.mk (keep_below HXB.out hb2); clear hb2))
  have y0 := Joins.cell_of_block HXC.out 0
  have y1 := Joins.cell_of_block HXC.out 1
  have y2 := Joins.cell_of_block HXC.out 2
  have f0 := blk_frozen HXC.out 0
  have f1 := blk_frozen HXC.out 1
  have f2 := blk_frozen HXC.out 2
  go_wp2
  refine bodyPost_ret (results_ct rfl _ _ gr 115 #[.int .i64 0, .int .u64 0, .int .i64 0] (0, 0) _ rfl (set3 HXC.out _ _ _) Tryd.underlying115 rfl (by kernel_rfl)) rfl ?_
  exact ⟨rfl, below_set (below_set (below_set HB2.out HGR.out) HGR.out) HGR.out⟩
 | some p =>
  obtain ⟨hpb, hpl, hpk⟩ := open_bytes hl ho
  obtain ⟨q, hq⟩ : ∃ q, q = p.drop 1 := ⟨_, rfl⟩
  have hql : q.length = 11 := by rw [hq, List.length_drop, hpl]
  have hqb : Bytes q := by rw [hq]; exact hpb.drop 1
  have e3 : p.drop 3 = q.drop 2 := by rw [hq, List.drop_drop]
  have e11 : p.drop 11 = (q.drop 2).drop 8 := by rw [hq, List.drop_drop, List.drop_drop]
  have hP : parseMapL l = if 256 ≤ getL (q.take 2) ∨ 64 < getL (((q.drop 2).drop 8).take 1) then ((0, 0, 0), false) else ((getL (q.take 2), getL ((q.drop 2).take 8), getL (((q.drop 2).drop 8).take 1)), true) := by
   unfold parseMapL
   rw [ho]
   show (if 256 ≤ getL ((p.drop 1).take 2) ∨ 64 < getL ((p.drop 11).take 1) then (((0 : Int), (0 : Int), (0 : Int)), false) else ((getL ((p.drop 1).take 2), getL ((p.drop 3).take 8), getL ((p.drop 11).take 1)), true)) = _
   rw [← hq, e3, e11]
  rw [hP]
  rw [ho] at HO
  have hb1 := getL_u64 (hqb.take 2) 2 (by decide) (by rw [List.length_take]; omega)
  have hb3 := getL_u64 (((hqb.drop 2).drop 8).take 1) 1 (by decide) (by rw [List.length_take]; omega)
  have hw1 : IntKind.i64.wrap (getL (q.take 2)) = getL (q.take 2) := by rw [i64_w]; exact wrap64_of (by omega) (by omega)
  have hw3 : IntKind.i64.wrap (getL (((q.drop 2).drop 8).take 1)) = getL (((q.drop 2).drop 8).take 1) := by rw [i64_w]; exact wrap64_of (by omega) (by omega)
  obtain ⟨leb, hleb⟩ : ∃ x, x = getL (q.take 2) := ⟨_, rfl⟩
  obtain ⟨seq, hseq⟩ : ∃ x, x = getL ((q.drop 2).take 8) := ⟨_, rfl⟩
  obtain ⟨pg, hpg⟩ : ∃ x, x = getL (((q.drop 2).drop 8).take 1) := ⟨_, rfl⟩
  rw [← hleb, ← hseq, ← hpg]
  rw [← hleb] at hw1 hb1
  rw [← hpg] at hw3 hb3
  obtain ⟨q2, hq2⟩ : ∃ x, x = q.drop 2 := ⟨_, rfl⟩
  rw [← hq2] at hseq hpg
  obtain ⟨q3, hq3⟩ : ∃ x, x = q2.drop 8 := ⟨_, rfl⟩
  rw [← hq3] at hpg
  have hq2l : q2.length = 9 := by rw [hq2, List.length_drop, hql]
  have hq3l : q3.length = 1 := by rw [hq3, List.length_drop, hq2l]
  have hq2b : Bytes q2 := by rw [hq2]; exact hqb.drop 2
  have hq3b : Bytes q3 := by rw [hq3]; exact hq2b.drop 8
  have HT1 := Aside0.mk (fun (w1 : World) (hb : Below w.heap.size w w1) (g : Nat) (hge : w.heap.size ≤ g) (B : Option Addr) (c : Nat) (hx : w1.heap[g]? = some (.cells #[.slice B q.length c] 141 (0, 0))) (hc : q.length ≤ c) (hC : Kd.C kB w1 B q.length q) => show Calls Tryd.prog 70 #[.pointer (some ⟨g, 0, none⟩), .int .i64 2] w1 (fun e w' => e = .returned (.int .u64 leb) ∧ Below w.heap.size w w' ∧ Only g w1 w' ∧ ∃ (B' : Option Addr) (c' : Nat), w'.heap[g]? = some (.cells #[.slice B' q2.length c'] 141 (0, 0)) ∧ q2.length ≤ c' ∧ Kd.C kB w' B' q2.length q2) from by
   rw [hleb, hq2]
   exact take_is hb hge B c q hx hqb hc hC 2 (by omega) (by decide))
  have HT2 := Aside0.mk (fun (w1 : World) (hb : Below w.heap.size w w1) (g : Nat) (hge : w.heap.size ≤ g) (B : Option Addr) (c : Nat) (hx : w1.heap[g]? = some (.cells #[.slice B q2.length c] 141 (0, 0))) (hc : q2.length ≤ c) (hC : Kd.C kB w1 B q2.length q2) => show Calls Tryd.prog 70 #[.pointer (some ⟨g, 0, none⟩), .int .i64 8] w1 (fun e w' => e = .returned (.int .u64 seq) ∧ Below w.heap.size w w' ∧ Only g w1 w' ∧ ∃ (B' : Option Addr) (c' : Nat), w'.heap[g]? = some (.cells #[.slice B' q3.length c'] 141 (0, 0)) ∧ q3.length ≤ c' ∧ Kd.C kB w' B' q3.length q3) from by
   rw [hseq, hq3]
   exact take_is hb hge B c q2 hx hq2b hc hC 8 (by omega) (by decide))
  have HT3 := Aside0.mk (fun (w1 : World) (hb : Below w.heap.size w w1) (g : Nat) (hge : w.heap.size ≤ g) (B : Option Addr) (c : Nat) (hx : w1.heap[g]? = some (.cells #[.slice B q3.length c] 141 (0, 0))) (hc : q3.length ≤ c) (hC : Kd.C kB w1 B q3.length q3) => show Calls Tryd.prog 70 #[.pointer (some ⟨g, 0, none⟩), .int .i64 1] w1 (fun e w' => e = .returned (.int .u64 pg) ∧ Below w.heap.size w w' ∧ Only g w1 w') from by
   rw [hpg]
   exact (take_is hb hge B c q3 hx hq3b hc hC 1 (by omega) (by decide)).mono fun e w' h => ⟨h.1, h.2.1, h.2.2.1⟩)
  have HOP : Aside0 (∀ (w' : World) (_ : Below w.heap.size w w'), Calls Tryd.prog 68 #[.slice A l.length c, .int .u8 77, .int .i64 12] w' fun e w2 => ∃ (g : Nat) (B : Option Addr) (c : Nat), e = .returned (.tuple #[.pointer (some ⟨g, 0, none⟩), .nilIface]) ∧ w'.heap.size ≤ g ∧ w2.heap[g]? = some (.cells #[.slice B q.length c] 141 (0, 0)) ∧ q.length ≤ c ∧ Kd.C kB w2 B q.length q ∧ Below w'.heap.size w' w2) := ⟨fun w' hb => (HO.out w' hb).mono fun e w2 ⟨v, he, ⟨g, B, c, hv, h1, h2, h3, h4⟩, hb2⟩ => ⟨g, B, c, by rw [he, hv], h1, by rw [hq]; exact h2, by rw [hq]; exact h3, by rw [hq]; exact h4, hb2⟩⟩
  clear hP ho hl hr hc hg HO hleb hseq hpg hq hq2 hq3 hql hqb hq2l hq3l hq2b hq3b e3 e11 hpb hpl hpk
  by_cases hbad : 256 ≤ leb ∨ 64 < pg
  ·rw [if_pos hbad]
   go_enter Tryd.func58, Tryd.ntmps58
   go_upto_region 1 with (fail)
   generalize hW : w.alloc (.cells #[.int .i64 0, .int .u64 0, .int .i64 0] 115) = wa
   have hba : Below w.heap.size w wa := by rw [← hW]; exact below_alloc (Below.refl _ _) _
   have hxa : wa.heap[w.heap.size]? = some (.cells #[.int .i64 0, .int .u64 0, .int .i64 0] 115 (0, 0)) := by rw [← hW]; exact new_blk _ _ _
   obtain ⟨gr, hgr⟩ : ∃ gr, gr = w.heap.size := ⟨_, rfl⟩
   rw [← hgr] at hxa ⊢
   have HGR := Aside0.mk (Nat.le_of_eq hgr.symm)
   have HXA := Aside0.mk hxa
   have HO1 := Aside0.mk (HOP.out wa hba)
   have HBA := Aside0.mk hba
   clear hW hba hxa hgr
   go_upto_region 2 with (first
    | (go_at_call 68; (with_reducible refine HO1.out.mono ?_); rintro e w1 ⟨g, B, c2, rfl, hge, hx, hc2, hC2, hb1⟩; have HB1 := Aside0.mk (below_step HBA.out hb1); have HXB := Aside0.mk (keep_below HXA.out hb1); have HGE := Aside0.mk (Nat.le_trans (below_size HBA.out) hge); have HX1 := Aside0.mk hx; have HC1 := Aside0.mk hc2; have HD1 := Aside0.mk hC2; clear hx hb1 hc2 hC2 hge))
   have hg1 : w1.cell? ⟨0, 0, none⟩ = some (.iface 158 (.pointer (some a))) := cell_below HG.out HB1.out
   go_upto_region 4 with (first
    | (go_at_call 69; (with_reducible refine (is_none_nil a _).mono ?_); rintro e w2 ⟨rfl, hb2⟩; have HB2 := Aside0.mk (below_step HB1.out hb2); have HXC := Aside0.mk (keep_below HXB.out hb2); have HX2 := Aside0.mk (keep_below HX1.out hb2); have HD2 := Aside0.mk (Kd.C_below HD1.out hb2); clear hb2))
   clear hg1
   go_upto_region 5 with (fail)
   generalize hW : w2.alloc (.cells #[.int .i64 0, .int .u64 0, .int .i64 0] 115) = w3
   have hb3' : Below w2.heap.size w2 w3 := by rw [← hW]; exact below_alloc (Below.refl _ _) _
   have hxm : w3.heap[w2.heap.size]? = some (.cells #[.int .i64 0, .int .u64 0, .int .i64 0] 115 (0, 0)) := by rw [← hW]; exact new_blk _ _ _
   have hng : gr ≠ w2.heap.size := fun e => by
    have := blk_lt HXC.out
    omega
   have hng2 : g ≠ w2.heap.size := fun e => by
    have := blk_lt HX2.out
    omega
   obtain ⟨gm, hgm⟩ : ∃ gm, gm = w2.heap.size := ⟨_, rfl⟩
   rw [← hgm] at hxm hng hng2 ⊢
   have HGM := Aside0.mk (Nat.le_trans (below_size HB2.out) (Nat.le_of_eq hgm.symm))
   have HNG := Aside0.mk hng
   have HNG2 := Aside0.mk hng2
   have HXM := Aside0.mk hxm
   have HXR := Aside0.mk (keep_below HXC.out hb3')
   have HX3 := Aside0.mk (keep_below HX2.out hb3')
   have HB3 := Aside0.mk (below_step HB2.out hb3')
   have HD3 := Aside0.mk (Kd.C_below HD2.out hb3')
   have HTa := Aside0.mk (HT1.out w3 HB3.out g HGE.out B c2 HX3.out HC1.out HD3.out)
   have HNE : Aside0 (gr ≠ g) := ⟨fun e => by
    have h9 := HX3.out
    rw [← e] at h9
    rw [HXR.out] at h9
    simp only [Option.some.injEq, Obj.cells.injEq] at h9
    exact absurd h9.2.1 (by decide)⟩
   have k0 := Joins.cell_of_block HXM.out 0
   have j0 := blk_frozen HXM.out 0
   clear hW hb3' hxm hng hng2 hgm
   have HMa := Aside0.mk (fun (w4 : World) (ho : Only g w3 w4) => ho gm _ _ _ (fun e => HNG2.out e.symm) HXM.out)
   have HRa := Aside0.mk (fun (w4 : World) (ho : Only g w3 w4) => ho gr _ _ _ HNE.out HXR.out)
   clear k0 j0
   go_upto_region 6 with (first
    | (go_at_call 70; (with_reducible refine HTa.out.mono ?_); rintro e w4 ⟨rfl, hb4, ho4, B4, c4, hx4, hc4, hC4⟩; have HX4 := Aside0.mk hx4; have HC4 := Aside0.mk hc4; have HD4 := Aside0.mk hC4; have HB4 := Aside0.mk hb4; have HM4 := Aside0.mk (HMa.out w4 ho4); have HR4 := Aside0.mk (HRa.out w4 ho4); have k0 := Joins.cell_of_block HM4.out 0; have j0 := blk_frozen HM4.out 0; clear hx4 hc4 hC4 hb4 ho4))
   generalize hW : w4.setCell ⟨gm, 0, none⟩ (.int .i64 leb) = w5
   have HX5 : Aside0 (w5.heap[g]? = some (.cells #[.slice B4 q2.length c4] 141 (0, 0))) := ⟨by rw [← hW]; exact blk_far HX4.out (fun e => HNG2.out e) _⟩
   have HM5 : Aside0 (w5.heap[gm]? = some (.cells #[.int .i64 leb, .int .u64 0, .int .i64 0] 115 (0, 0))) := ⟨by rw [← hW]; exact blk_set HM4.out 0 _⟩
   have HR5 : Aside0 (w5.heap[gr]? = some (.cells #[.int .i64 0, .int .u64 0, .int .i64 0] 115 (0, 0))) := ⟨by rw [← hW]; exact blk_far HR4.out (fun e => HNG.out e) _⟩
   have HB5 : Aside0 (Below w.heap.size w w5) := ⟨by rw [← hW]; exact below_set HB4.out HGM.out⟩
   have HD5 : Aside0 (Kd.C kB w5 B4 q2.length q2) := ⟨by
    rw [← hW]
    exact C_far HD4.out HM4.out (fun k n h => by
     match k, h with
     | 0, h => simp at h
     | 1, h => simp at h
     | 2, h => simp at h
     | k + 3, h => simp at h) 0 _⟩
   clear hW k0 j0
   have HTb := Aside0.mk (HT2.out w5 HB5.out g HGE.out B4 c4 HX5.out HC4.out HD5.out)
   have HMb := Aside0.mk (fun (w6 : World) (ho : Only g w5 w6) => ho gm _ _ _ (fun e => HNG2.out e.symm) HM5.out)
   have HRb := Aside0.mk (fun (w6 : World) (ho : Only g w5 w6) => ho gr _ _ _ HNE.out HR5.out)
   go_upto_region 7 with (first
    | (go_at_call 70; (with_reducible refine HTb.out.mono ?_); rintro e w6 ⟨rfl, hb6, ho6, B6, c6, hx6, hc6, hC6⟩; have HX6 := Aside0.mk hx6; have HC6 := Aside0.mk hc6; have HD6 := Aside0.mk hC6; have HB6 := Aside0.mk hb6; have HM6 := Aside0.mk (HMb.out w6 ho6); have HR6 := Aside0.mk (HRb.out w6 ho6); have k1 := Joins.cell_of_block HM6.out 1; have j1 := blk_frozen HM6.out 1; clear hx6 hc6 hC6 hb6 ho6))
   generalize hW : w6.setCell ⟨gm, 1, none⟩ (.int .u64 seq) = w7
   have HX7 : Aside0 (w7.heap[g]? = some (.cells #[.slice B6 q3.length c6] 141 (0, 0))) := ⟨by rw [← hW]; exact blk_far HX6.out (fun e => HNG2.out e) _⟩
   have HM7 : Aside0 (w7.heap[gm]? = some (.cells #[.int .i64 leb, .int .u64 seq, .int .i64 0] 115 (0, 0))) := ⟨by rw [← hW]; exact blk_set HM6.out 1 _⟩
   have HR7 : Aside0 (w7.heap[gr]? = some (.cells #[.int .i64 0, .int .u64 0, .int .i64 0] 115 (0, 0))) := ⟨by rw [← hW]; exact blk_far HR6.out (fun e => HNG.out e) _⟩
   have HB7 : Aside0 (Below w.heap.size w w7) := ⟨by rw [← hW]; exact below_set HB6.out HGM.out⟩
   have HD7 : Aside0 (Kd.C kB w7 B6 q3.length q3) := ⟨by
    rw [← hW]
    exact C_far HD6.out HM6.out (fun k n h => by
     match k, h with
     | 0, h => simp at h
     | 1, h => simp at h
     | 2, h => simp at h
     | k + 3, h => simp at h) 1 _⟩
   clear hW k1 j1
   have HTc := Aside0.mk (HT3.out w7 HB7.out g HGE.out B6 c6 HX7.out HC6.out HD7.out)
   have HMc := Aside0.mk (fun (w8 : World) (ho : Only g w7 w8) => ho gm _ _ _ (fun e => HNG2.out e.symm) HM7.out)
   have HRc := Aside0.mk (fun (w8 : World) (ho : Only g w7 w8) => ho gr _ _ _ HNE.out HR7.out)
   go_upto_region 8 with (first
    | (go_at_call 70; (with_reducible refine HTc.out.mono ?_); rintro e w8 ⟨rfl, hb8, ho8⟩; have HB8 := Aside0.mk hb8; have HM8 := Aside0.mk (HMc.out w8 ho8); have HR8 := Aside0.mk (HRc.out w8 ho8); have k2 := Joins.cell_of_block HM8.out 2; have j2 := blk_frozen HM8.out 2; clear hb8 ho8))
   generalize hW : w8.setCell ⟨gm, 2, none⟩ (.int .i64 pg) = w9
   have HM9 : Aside0 (w9.heap[gm]? = some (.cells #[.int .i64 leb, .int .u64 seq, .int .i64 pg] 115 (0, 0))) := ⟨by rw [← hW]; exact blk_set HM8.out 2 _⟩
   have HR9 : Aside0 (w9.heap[gr]? = some (.cells #[.int .i64 0, .int .u64 0, .int .i64 0] 115 (0, 0))) := ⟨by rw [← hW]; exact blk_far HR8.out (fun e => HNG.out e) _⟩
   have HB9 : Aside0 (Below w.heap.size w w9) := ⟨by rw [← hW]; exact below_set HB8.out HGM.out⟩
   clear hW k2 j2
   have m0 := Joins.cell_of_block HM9.out 0
   have m1 := Joins.cell_of_block HM9.out 1
   have m2 := Joins.cell_of_block HM9.out 2
   have r0 := Joins.cell_of_block HR9.out 0
   have r1 := Joins.cell_of_block HR9.out 1
   have r2 := Joins.cell_of_block HR9.out 2
   have f0 := blk_frozen HR9.out 0
   have f1 := blk_frozen HR9.out 1
   have f2 := blk_frozen HR9.out 2
   by_cases h9 : 256 ≤ leb
   ·have d0 : decide (256 ≤ leb) = true := decide_eq_true h9
    clear hbad h9 hb1 hb3
    go_wp2
    refine bodyPost_ret (results_ct rfl _ _ gr 115 #[.int .i64 0, .int .u64 0, .int .i64 0] (0, 0) _ rfl (set3 HR9.out _ _ _) Tryd.underlying115 rfl (by kernel_rfl)) rfl ?_
    exact ⟨rfl, below_set (below_set (below_set HB9.out HGR.out) HGR.out) HGR.out⟩
   ·have d0 : decide (256 ≤ leb) = false := decide_eq_false h9
    have d1 : decide (64 < pg) = true := decide_eq_true (by omega)
    clear hbad h9 hb1 hb3
    go_wp2
    refine bodyPost_ret (results_ct rfl _ _ gr 115 #[.int .i64 0, .int .u64 0, .int .i64 0] (0, 0) _ rfl (set3 HR9.out _ _ _) Tryd.underlying115 rfl (by kernel_rfl)) rfl ?_
    exact ⟨rfl, below_set (below_set (below_set HB9.out HGR.out) HGR.out) HGR.out⟩
  ·rw [if_neg hbad]
   go_enter Tryd.func58, Tryd.ntmps58
   go_upto_region 1 with (fail)
   generalize hW : w.alloc (.cells #[.int .i64 0, .int .u64 0, .int .i64 0] 115) = wa
   have hba : Below w.heap.size w wa := by rw [← hW]; exact below_alloc (Below.refl _ _) _
   have hxa : wa.heap[w.heap.size]? = some (.cells #[.int .i64 0, .int .u64 0, .int .i64 0] 115 (0, 0)) := by rw [← hW]; exact new_blk _ _ _
   obtain ⟨gr, hgr⟩ : ∃ gr, gr = w.heap.size := ⟨_, rfl⟩
   rw [← hgr] at hxa ⊢
   have HGR := Aside0.mk (Nat.le_of_eq hgr.symm)
   have HXA := Aside0.mk hxa
   have HO1 := Aside0.mk (HOP.out wa hba)
   have HBA := Aside0.mk hba
   clear hW hba hxa hgr
   go_upto_region 2 with (first
    | (go_at_call 68; (with_reducible refine HO1.out.mono ?_); rintro e w1 ⟨g, B, c2, rfl, hge, hx, hc2, hC2, hb1⟩; have HB1 := Aside0.mk (below_step HBA.out hb1); have HXB := Aside0.mk (keep_below HXA.out hb1); have HGE := Aside0.mk (Nat.le_trans (below_size HBA.out) hge); have HX1 := Aside0.mk hx; have HC1 := Aside0.mk hc2; have HD1 := Aside0.mk hC2; clear hx hb1 hc2 hC2 hge))
   have hg1 : w1.cell? ⟨0, 0, none⟩ = some (.iface 158 (.pointer (some a))) := cell_below HG.out HB1.out
   go_upto_region 4 with (first
    | (go_at_call 69; (with_reducible refine (is_none_nil a _).mono ?_); rintro e w2 ⟨rfl, hb2⟩; have HB2 := Aside0.mk (below_step HB1.out hb2); have HXC := Aside0.mk (keep_below HXB.out hb2); have HX2 := Aside0.mk (keep_below HX1.out hb2); have HD2 := Aside0.mk (Kd.C_below HD1.out hb2); clear hb2))
   clear hg1
   go_upto_region 5 with (fail)
   generalize hW : w2.alloc (.cells #[.int .i64 0, .int .u64 0, .int .i64 0] 115) = w3
   have hb3' : Below w2.heap.size w2 w3 := by rw [← hW]; exact below_alloc (Below.refl _ _) _
   have hxm : w3.heap[w2.heap.size]? = some (.cells #[.int .i64 0, .int .u64 0, .int .i64 0] 115 (0, 0)) := by rw [← hW]; exact new_blk _ _ _
   have hng : gr ≠ w2.heap.size := fun e => by
    have := blk_lt HXC.out
    omega
   have hng2 : g ≠ w2.heap.size := fun e => by
    have := blk_lt HX2.out
    omega
   obtain ⟨gm, hgm⟩ : ∃ gm, gm = w2.heap.size := ⟨_, rfl⟩
   rw [← hgm] at hxm hng hng2 ⊢
   have HGM := Aside0.mk (Nat.le_trans (below_size HB2.out) (Nat.le_of_eq hgm.symm))
   have HNG := Aside0.mk hng
   have HNG2 := Aside0.mk hng2
   have HXM := Aside0.mk hxm
   have HXR := Aside0.mk (keep_below HXC.out hb3')
   have HX3 := Aside0.mk (keep_below HX2.out hb3')
   have HB3 := Aside0.mk (below_step HB2.out hb3')
   have HD3 := Aside0.mk (Kd.C_below HD2.out hb3')
   have HTa := Aside0.mk (HT1.out w3 HB3.out g HGE.out B c2 HX3.out HC1.out HD3.out)
   have HNE : Aside0 (gr ≠ g) := ⟨fun e => by
    have h9 := HX3.out
    rw [← e] at h9
    rw [HXR.out] at h9
    simp only [Option.some.injEq, Obj.cells.injEq] at h9
    exact absurd h9.2.1 (by decide)⟩
   have k0 := Joins.cell_of_block HXM.out 0
   have j0 := blk_frozen HXM.out 0
   clear hW hb3' hxm hng hng2 hgm
   have HMa := Aside0.mk (fun (w4 : World) (ho : Only g w3 w4) => ho gm _ _ _ (fun e => HNG2.out e.symm) HXM.out)
   have HRa := Aside0.mk (fun (w4 : World) (ho : Only g w3 w4) => ho gr _ _ _ HNE.out HXR.out)
   clear k0 j0
   go_upto_region 6 with (first
    | (go_at_call 70; (with_reducible refine HTa.out.mono ?_); rintro e w4 ⟨rfl, hb4, ho4, B4, c4, hx4, hc4, hC4⟩; have HX4 := Aside0.mk hx4; have HC4 := Aside0.mk hc4; have HD4 := Aside0.mk hC4; have HB4 := Aside0.mk hb4; have HM4 := Aside0.mk (HMa.out w4 ho4); have HR4 := Aside0.mk (HRa.out w4 ho4); have k0 := Joins.cell_of_block HM4.out 0; have j0 := blk_frozen HM4.out 0; clear hx4 hc4 hC4 hb4 ho4))
   generalize hW : w4.setCell ⟨gm, 0, none⟩ (.int .i64 leb) = w5
   have HX5 : Aside0 (w5.heap[g]? = some (.cells #[.slice B4 q2.length c4] 141 (0, 0))) := ⟨by rw [← hW]; exact blk_far HX4.out (fun e => HNG2.out e) _⟩
   have HM5 : Aside0 (w5.heap[gm]? = some (.cells #[.int .i64 leb, .int .u64 0, .int .i64 0] 115 (0, 0))) := ⟨by rw [← hW]; exact blk_set HM4.out 0 _⟩
   have HR5 : Aside0 (w5.heap[gr]? = some (.cells #[.int .i64 0, .int .u64 0, .int .i64 0] 115 (0, 0))) := ⟨by rw [← hW]; exact blk_far HR4.out (fun e => HNG.out e) _⟩
   have HB5 : Aside0 (Below w.heap.size w w5) := ⟨by rw [← hW]; exact below_set HB4.out HGM.out⟩
   have HD5 : Aside0 (Kd.C kB w5 B4 q2.length q2) := ⟨by
    rw [← hW]
    exact C_far HD4.out HM4.out (fun k n h => by
     match k, h with
     | 0, h => simp at h
     | 1, h => simp at h
     | 2, h => simp at h
     | k + 3, h => simp at h) 0 _⟩
   clear hW k0 j0
   have HTb := Aside0.mk (HT2.out w5 HB5.out g HGE.out B4 c4 HX5.out HC4.out HD5.out)
   have HMb := Aside0.mk (fun (w6 : World) (ho : Only g w5 w6) => ho gm _ _ _ (fun e => HNG2.out e.symm) HM5.out)
   have HRb := Aside0.mk (fun (w6 : World) (ho : Only g w5 w6) => ho gr _ _ _ HNE.out HR5.out)
   go_upto_region 7 with (first
    | (go_at_call 70; (with_reducible refine HTb.out.mono ?_); rintro e w6 ⟨rfl, hb6, ho6, B6, c6, hx6, hc6, hC6⟩; have HX6 := Aside0.mk hx6; have HC6 := Aside0.mk hc6; have HD6 := Aside0.mk hC6; have HB6 := Aside0.mk hb6; have HM6 := Aside0.mk (HMb.out w6 ho6); have HR6 := Aside0.mk (HRb.out w6 ho6); have k1 := Joins.cell_of_block HM6.out 1; have j1 := blk_frozen HM6.out 1; clear hx6 hc6 hC6 hb6 ho6))
   generalize hW : w6.setCell ⟨gm, 1, none⟩ (.int .u64 seq) = w7
   have HX7 : Aside0 (w7.heap[g]? = some (.cells #[.slice B6 q3.length c6] 141 (0, 0))) := ⟨by rw [← hW]; exact blk_far HX6.out (fun e => HNG2.out e) _⟩
   have HM7 : Aside0 (w7.heap[gm]? = some (.cells #[.int .i64 leb, .int .u64 seq, .int .i64 0] 115 (0, 0))) := ⟨by rw [← hW]; exact blk_set HM6.out 1 _⟩
   have HR7 : Aside0 (w7.heap[gr]? = some (.cells #[.int .i64 0, .int .u64 0, .int .i64 0] 115 (0, 0))) := ⟨by rw [← hW]; exact blk_far HR6.out (fun e => HNG.out e) _⟩
   have HB7 : Aside0 (Below w.heap.size w w7) := ⟨by rw [← hW]; exact below_set HB6.out HGM.out⟩
   have HD7 : Aside0 (Kd.C kB w7 B6 q3.length q3) := ⟨by
    rw [← hW]
    exact C_far HD6.out HM6.out (fun k n h => by
     match k, h with
     | 0, h => simp at h
     | 1, h => simp at h
     | 2, h => simp at h
     | k + 3, h => simp at h) 1 _⟩
   clear hW k1 j1
   have HTc := Aside0.mk (HT3.out w7 HB7.out g HGE.out B6 c6 HX7.out HC6.out HD7.out)
   have HMc := Aside0.mk (fun (w8 : World) (ho : Only g w7 w8) => ho gm _ _ _ (fun e => HNG2.out e.symm) HM7.out)
   have HRc := Aside0.mk (fun (w8 : World) (ho : Only g w7 w8) => ho gr _ _ _ HNE.out HR7.out)
   go_upto_region 8 with (first
    | (go_at_call 70; (with_reducible refine HTc.out.mono ?_); rintro e w8 ⟨rfl, hb8, ho8⟩; have HB8 := Aside0.mk hb8; have HM8 := Aside0.mk (HMc.out w8 ho8); have HR8 := Aside0.mk (HRc.out w8 ho8); have k2 := Joins.cell_of_block HM8.out 2; have j2 := blk_frozen HM8.out 2; clear hb8 ho8))
   generalize hW : w8.setCell ⟨gm, 2, none⟩ (.int .i64 pg) = w9
   have HM9 : Aside0 (w9.heap[gm]? = some (.cells #[.int .i64 leb, .int .u64 seq, .int .i64 pg] 115 (0, 0))) := ⟨by rw [← hW]; exact blk_set HM8.out 2 _⟩
   have HR9 : Aside0 (w9.heap[gr]? = some (.cells #[.int .i64 0, .int .u64 0, .int .i64 0] 115 (0, 0))) := ⟨by rw [← hW]; exact blk_far HR8.out (fun e => HNG.out e) _⟩
   have HB9 : Aside0 (Below w.heap.size w w9) := ⟨by rw [← hW]; exact below_set HB8.out HGM.out⟩
   clear hW k2 j2
   have m0 := Joins.cell_of_block HM9.out 0
   have m1 := Joins.cell_of_block HM9.out 1
   have m2 := Joins.cell_of_block HM9.out 2
   have r0 := Joins.cell_of_block HR9.out 0
   have r1 := Joins.cell_of_block HR9.out 1
   have r2 := Joins.cell_of_block HR9.out 2
   have f0 := blk_frozen HR9.out 0
   have f1 := blk_frozen HR9.out 1
   have f2 := blk_frozen HR9.out 2
   have d0 : decide (256 ≤ leb) = false := decide_eq_false (by omega)
   have d1 : decide (64 < pg) = false := decide_eq_false (by omega)
   clear hbad hb1 hb3
   go_wp2
   refine bodyPost_ret (results_ct rfl _ _ gr 115 #[.int .i64 leb, .int .u64 seq, .int .i64 pg] (0, 0) _ rfl (set3 HR9.out _ _ _) Tryd.underlying115 rfl (by kernel_rfl)) rfl ?_
   exact ⟨rfl, below_set (below_set (below_set HB9.out HGR.out) HGR.out) HGR.out⟩
end Go.Proofs.YtdlimghdimkadaaDoor.PAll
