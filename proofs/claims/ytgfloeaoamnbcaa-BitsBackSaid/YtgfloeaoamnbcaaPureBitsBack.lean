/- What was framed is found again whatever stands behind it, and with a byte of the sum or of the payload turned it is none: 'pumicelaw01.BitsBack' answers true; no conditions. -/
import Derived.Test.YtgfloeaoamnbcaaPBitsBackx3
import Derived.Test.YtgfloeaoamnbcaaMath
namespace Go.Proofs.Ytgfloeaoamnbcaa.Pure
open Go.RowKit Go.Proofs.Ytgfloeaoamnbcaa.PBitsBack Go.Proofs.YtgfloeaoamnbcaaW.PrintWords Go.Proofs.YtgfloeaoamnbcaaW.PrintLast Go.Proofs.Ytgfloeaoamnbcaa.Plain
set_option linter.unusedVariables false
set_option linter.unusedSimpArgs false

theorem bSum_l1 (l : List Int) (n i r : Int) : ∀ (d : Nat) (s : BitVec 32) (j : Int), j + d = 8 → 0 ≤ j →
    Ev (fun k => bits_Sum.l0 k ((steps d s).toNat : Int) l n (wrap64 (i + 1))) r → Ev (fun k => bits_Sum.l1 k (s.toNat : Int) l n i j) r
  | 0, s, j, hd, hj, h => Ev.step (fun k => by simp only [bits_Sum.l1]; rw [if_neg (by omega)]; rfl) h
  | d + 1, s, j, hd, hj, h => by
    have h2 := bSum_l1 l n i r d (crcStep s) (j + 1) (by omega) (by omega) h
    refine Ev.step (fun k => ?_) h2
    simp only [bits_Sum.l1]
    rw [if_pos (by omega), wrap64_of (by omega) (by omega)]
    by_cases hb : s.getLsbD 0 = true
    · rw [if_pos ((odd32 s).2 hb), half32, poly32, xor32]; unfold crcStep; rw [if_pos hb]
    · rw [if_neg (fun h => hb ((odd32 s).1 h)), half32]; unfold crcStep; rw [if_neg hb]
theorem bSum_l0 (l : List Int) (hl : Bytes l) (hn : l.length ≤ 9223372036854775806) : ∀ (d i : Nat) (s : BitVec 32), i + d = l.length →
    Ev (fun k => bits_Sum.l0 k (s.toNat : Int) l (l.length : Int) (i : Int)) (((0xFFFFFFFF#32 ^^^ (l.drop i).foldl feed s).toNat : Nat) : Int)
  | 0, i, s, hi => by
    refine Ev.step (f := fun _ => some _) (fun k => ?_) (Ev.now _)
    simp only [bits_Sum.l0]
    rw [if_neg (by omega), ones32, xor32, List.drop_of_length_le (by omega)]; rfl
  | d + 1, i, s, hi => by
    have h2 := bSum_l0 l hl hn d (i + 1) (feed s (l[i]'(by omega))) (by omega)
    rw [← List.foldl_cons, List.getElem_cons_drop] at h2
    have hw : wrap64 ((i : Int) + 1) = ((i + 1 : Nat) : Int) := by rw [wrap64_of (by omega) (by omega)]; simp
    rw [← hw] at h2
    have h3 := bSum_l1 l (l.length : Int) (i : Int) _ 8 (s ^^^ BitVec.ofInt 32 (l[i]'(by omega))) 0 (by omega) (by omega) h2
    refine Ev.step (fun k => ?_) h3
    simp only [bits_Sum.l0]
    rw [if_pos (by omega), if_pos (by omega), if_pos (by omega), rd_at l i (by omega), byte32, xor32]
theorem bSum_ev (l : List Int) (hl : Bytes l) (hn : l.length ≤ 9223372036854775806) : Ev (fun k => bits_Sum.f k l) (((crc l).toNat : Nat) : Int) :=
  bSum_l0 l hl hn l.length 0 0xFFFFFFFF#32 (by omega)

def clamp (b : Int) : Nat := if b < 0 then 0 else if 8 < b then 8 else b.toNat
theorem bPut_is (n b : Int) (hn : 0 ≤ n) : bits_Put.f n b = some (putL (clamp b) n) := by
  have hc : b < 0 ∨ b = 0 ∨ b = 1 ∨ b = 2 ∨ b = 3 ∨ b = 4 ∨ b = 5 ∨ b = 6 ∨ b = 7 ∨ b = 8 ∨ 8 < b := by omega
  rcases hc with hc | rfl | rfl | rfl | rfl | rfl | rfl | rfl | rfl | rfl | hc
  · have e0 : mn (mx b 0) 8 = 0 := by unfold mn mx; rw [if_pos hc]; rfl
    simp [bits_Put.f, e0, clamp, hc, putL]
  · simp [bits_Put.f, mn, mx, clamp, putL]
  · simp [bits_Put.f, mn, mx, clamp, putL, List.range_succ]
  · simp [bits_Put.f, mn, mx, clamp, putL, List.range_succ, List.replicate]
  · simp [bits_Put.f, mn, mx, clamp, putL, List.range_succ, List.replicate]
  · simp [bits_Put.f, mn, mx, clamp, putL, List.range_succ, List.replicate]
  · simp [bits_Put.f, mn, mx, clamp, putL, List.range_succ, List.replicate]
  · simp [bits_Put.f, mn, mx, clamp, putL, List.range_succ, List.replicate]
  · simp [bits_Put.f, mn, mx, clamp, putL, List.range_succ, List.replicate]
  · simp [bits_Put.f, mn, mx, clamp, putL, List.range_succ, List.replicate]
  · have e0 : mn (mx b 0) 8 = 8 := by unfold mn mx; rw [if_neg (by omega : ¬ b < 0), if_pos hc]
    have e1 : clamp b = 8 := by unfold clamp; rw [if_neg (by omega), if_pos hc]
    rw [e1]
    simp [bits_Put.f, e0, putL, List.range_succ, List.replicate]

theorem bGet_l0 (l : List Int) (hl : Bytes l) : ∀ (d i : Nat), i + d = min l.length 8 → Ev (fun k => bits_Get.l0 k l (getN l i) (mn (l.length : Int) 8) (i : Int)) (getL l)
  | 0, i, hi => by
    refine Ev.step (f := fun _ => some _) (fun k => ?_) (Ev.now _)
    have hi2 : i = min l.length 8 := by omega
    simp only [bits_Get.l0]
    rw [if_neg (by unfold mn; split <;> omega)]
    unfold getL
    rw [hi2]
  | d + 1, i, hi => by
    have h2 := bGet_l0 l hl d (i + 1) (by omega)
    refine Ev.step (fun k => ?_) h2
    simp only [bits_Get.l0]
    have hb := rd_lt l hl i
    have e1 : wrap64 (8 * (i : Int)) = 8 * (i : Int) := wrap64_of (by omega) (by omega)
    have e5 : wrap64 ((i : Int) + 1) = ((i + 1 : Nat) : Int) := by rw [wrap64_of (by omega) (by omega)]; simp
    rw [if_pos (by unfold mn; split <;> omega), if_pos (by omega), if_pos (by omega), e1, if_pos (by omega), e5, or64 i (by omega) (getN_bd hl i (by omega)) hb]
    rfl
theorem bGet_ev (l : List Int) (hl : Bytes l) : Ev (fun k => bits_Get.f k l) (getL l) := bGet_l0 l hl (min l.length 8) 0 (by omega)

theorem bFrame_ev (l : List Int) (hl : Bytes l) (hn : l.length ≤ 140737488351232) : Ev (fun k => bits_Frame.f k l) (frameL l) := by
  have hc2 : clamp 2 = 2 := rfl
  have hc4 : clamp 4 = 4 := rfl
  obtain ⟨K, hs⟩ := bSum_ev l hl (by omega)
  have hcr := (crc l).isLt
  have hp2 : Ev (fun _ => bits_Put.f (l.length : Int) 2) (putL 2 (l.length : Int)) := by simp only [bPut_is (l.length : Int) 2 (by omega), hc2]; exact Ev.now _
  have hp4 : Ev (fun _ => bits_Put.f (((crc l).toNat : Nat) : Int) 4) (putL 4 (((crc l).toNat : Nat) : Int)) := by simp only [bPut_is (((crc l).toNat : Nat) : Int) 4 (by omega), hc4]; exact Ev.now _
  unfold frameL
  by_cases h0 : l.length = 0
  · rw [if_pos (.inl h0)]
    refine ⟨1, fun k hk => ?_⟩
    obtain ⟨k, rfl⟩ : ∃ m, k = m + 1 := ⟨k - 1, by omega⟩
    show bits_Frame.f (k + 1) l = _
    unfold bits_Frame.f
    rw [if_pos (by omega)]
    simp [bits_Frame.j0]
  · by_cases h1 : 1024 < l.length
    · rw [if_pos (.inr h1)]
      refine ⟨1, fun k hk => ?_⟩
      obtain ⟨k, rfl⟩ : ∃ m, k = m + 1 := ⟨k - 1, by omega⟩
      show bits_Frame.f (k + 1) l = _
      unfold bits_Frame.f
      rw [if_neg (by omega), decide_eq_true (by omega)]
      simp [bits_Frame.j0]
    · rw [if_neg (by omega)]
      obtain ⟨K2, hp2⟩ := hp2
      obtain ⟨K4, hp4⟩ := hp4
      refine ⟨K + K2 + K4 + 1, fun k hk => ?_⟩
      obtain ⟨k, rfl⟩ : ∃ m, k = m + 1 := ⟨k - 1, by omega⟩
      show bits_Frame.f (k + 1) l = _
      unfold bits_Frame.f
      rw [if_neg (by omega), decide_eq_false (by omega)]
      simp only [bits_Frame.j0, Bool.false_eq_true, if_false]
      rw [wrapU64_of (by omega) (by omega)]
      have e1 := hp2 k (by omega)
      have e2 := hp4 k (by omega)
      have e3 := hs k (by omega)
      simp only [] at e1 e2 e3
      rw [e1, e3]
      simp only [Option.bind_some]
      rw [wrapU64_of (by omega) (by omega), e2]
      simp only [Option.bind_some]
      rw [if_pos (by simp only [putL_length]; omega), if_pos (by simp only [List.length_append, putL_length]; omega)]

theorem bUnframe_ev (l : List Int) (hl : Bytes l) (hn : l.length ≤ 4611686018427387904) : Ev (fun k => bits_Unframe.f k l) (unframeL l) := by
  unfold unframeL
  by_cases h6 : l.length < 6
  · rw [if_pos h6]
    refine ⟨0, fun k _ => ?_⟩
    show bits_Unframe.f k l = _
    unfold bits_Unframe.f
    rw [if_pos (by omega)]
  rw [if_neg h6]
  obtain ⟨K, hg⟩ := bGet_ev (l.take 2) (hl.take 2)
  have hlen2 : (l.take 2).length = 2 := by rw [List.length_take]; omega
  have hb := getL_bd (hl.take 2)
  rw [hlen2] at hb
  generalize hn2 : getL (l.take 2) = n at hb hg ⊢
  have hb2 : 0 ≤ n ∧ n < 65536 := hb
  have ew : wrap64 n = n := wrap64_of (by omega) (by omega)
  by_cases h0 : n = 0 ∨ 1024 < n ∨ (l.length : Int) - 6 < n
  · rw [if_pos h0]
    refine ⟨K + 1, fun k hk => ?_⟩
    obtain ⟨k, rfl⟩ : ∃ m, k = m + 1 := ⟨k - 1, by omega⟩
    have e1 := hg (k + 1) (by omega)
    simp only [] at e1
    show bits_Unframe.f (k + 1) l = _
    unfold bits_Unframe.f
    rw [if_neg (by omega), if_pos (by omega), e1]
    simp only [Option.bind_some, ew]
    have ew2 : wrap64 ((l.length : Int) - 6) = (l.length : Int) - 6 := wrap64_of (by omega) (by omega)
    rw [ew2]
    by_cases g0 : n = 0
    · rw [if_pos g0]; simp [bits_Unframe.j0]
    · by_cases g1 : n > 1024
      · rw [if_neg g0, if_pos g1]; simp [bits_Unframe.j0]
      · rw [if_neg g0, if_neg g1, decide_eq_true (by omega)]; simp [bits_Unframe.j0]
  · rw [if_neg h0]
    have ew2 : wrap64 ((l.length : Int) - 6) = (l.length : Int) - 6 := wrap64_of (by omega) (by omega)
    have ew3 : wrap64 (6 + n) = 6 + n := wrap64_of (by omega) (by omega)
    obtain ⟨K2, hs⟩ := bSum_ev ((l.take (6 + n).toNat).drop 6) ((hl.take _).drop _) (by rw [List.length_drop, List.length_take]; omega)
    obtain ⟨K3, hg2⟩ := bGet_ev ((l.take 6).drop 2) ((hl.take _).drop _)
    have hcr := (crc ((l.take (6 + n).toNat).drop 6)).isLt
    refine ⟨K + K2 + K3 + 1, fun k hk => ?_⟩
    obtain ⟨k, rfl⟩ : ∃ m, k = m + 1 := ⟨k - 1, by omega⟩
    have e1 := hg (k + 1) (by omega)
    have e2 := hs k (by omega)
    have e3 := hg2 k (by omega)
    simp only [] at e1 e2 e3
    show bits_Unframe.f (k + 1) l = _
    unfold bits_Unframe.f
    rw [if_neg (by omega), if_pos (by omega), e1]
    simp only [Option.bind_some, ew]
    rw [if_neg (by omega), if_neg (by omega), ew2, decide_eq_false (by omega)]
    simp only [bits_Unframe.j0, Bool.false_eq_true, if_false, Option.bind_some, List.nil_append, ew3]
    rw [if_pos (by omega), if_pos (by omega), if_pos (by simp only [List.length_nil, List.length_drop, List.length_take]; omega)]
    rw [e2]
    simp only [Option.bind_some]
    rw [if_pos (by omega), if_pos (by omega), e3]
    simp only [Option.bind_some]
    rw [wrapU64_of (by omega) (by omega)]
    by_cases hc : (((crc ((l.take (6 + n).toNat).drop 6)).toNat : Nat) : Int) = getL ((l.take 6).drop 2)
    · rw [if_pos hc, if_pos hc]
    · rw [if_neg hc, if_neg hc]

theorem nums_inj {a b : List Int} (ha : Bytes a) (hb : Bytes b) (h : (strOfNums a).toList = (strOfNums b).toList) : a = b := by
  have h2 : (a.map fun n => UInt8.ofNat n.toNat) = b.map fun n => UInt8.ofNat n.toNat := by
    have e : ∀ l : List Int, (strOfNums l).toList = l.map fun n => UInt8.ofNat n.toNat := fun l => by rw [ByteArray.toList_eq, strOfNums_data]
    rwa [e, e] at h
  have h3 := congrArg (List.map fun u : UInt8 => (u.toNat : Int)) h2
  rw [List.map_map, List.map_map] at h3
  have e : ∀ l : List Int, Bytes l → l.map ((fun u : UInt8 => (u.toNat : Int)) ∘ fun n : Int => UInt8.ofNat n.toNat) = l := by
    intro l hl
    conv => rhs; rw [← List.map_id l]
    refine List.map_congr_left (fun x hx => ?_)
    have := hl x hx
    simp [UInt8.toNat_ofNat']
    omega
  rwa [e a ha, e b hb] at h3
theorem same_refl (a : List Int) : pumicelaw01_Same.f a a = some true := by unfold pumicelaw01_Same.f; simp

theorem alive_ev : Ev (fun k => pumicelaw01_alive.f k) true := Ev.of (fun k => pumicelaw01_alive.mono k) alive_true

theorem back_j0 {b : List Int} (hb : Bytes b) (h0 : b.length ≠ 0) (h1 : b.length ≤ 1024) (i v : Int) (hv : 0 ≤ v ∧ v < 256) : Ev (fun k => pumicelaw01_BitsBack.j0 k i v (frameL b).1 false) true := by
  have hf : Bytes (frameL b).1 := by rw [frame_parts h0 h1]; exact ((Bytes.putL _ _).append (Bytes.putL _ _)).append hb
  have hfl : (frameL b).1.length = 6 + b.length := by rw [frame_parts h0 h1]; simp only [List.length_append, putL_length]
  by_cases h2 : i < 2
  · refine Ev.step (f := fun _ => some _) (fun k => ?_) (Ev.now _)
    simp only [pumicelaw01_BitsBack.j0, Bool.false_eq_true, if_false]
    rw [if_pos h2]
  by_cases h3 : i ≥ ((frameL b).1.length : Int)
  · refine Ev.step (f := fun _ => some _) (fun k => ?_) (Ev.now _)
    simp only [pumicelaw01_BitsBack.j0, Bool.false_eq_true, if_false]
    rw [if_neg h2, if_pos h3]
  by_cases h4 : v = 0
  · refine Ev.step (f := fun _ => some _) (fun k => ?_) (Ev.now _)
    simp only [pumicelaw01_BitsBack.j0, Bool.false_eq_true, if_false]
    rw [if_neg h2, if_neg h3, if_pos h4]
  have hr := rd_lt (frameL b).1 hf i
  have hx := xor8_byte hr hv
  have hset : Bytes ((frameL b).1.set i.toNat (Go.bits .xor .u8 (rd (frameL b).1 i) v)) := fun x hx2 => by
    rcases List.mem_or_eq_of_mem_set hx2 with h | h
    · exact hf x h
    · rw [h]; exact hx
  obtain ⟨K, hu⟩ := bUnframe_ev _ hset (by rw [List.length_set]; omega)
  refine ⟨K + 1, fun k hk => ?_⟩
  obtain ⟨k, rfl⟩ : ∃ m, k = m + 1 := ⟨k - 1, by omega⟩
  have e := hu k (by omega)
  simp only [] at e
  rw [unframe_turned hb h0 h1 (by omega) (by omega) hx (xor8_ne hr hv h4)] at e
  have q1 : ([] : List Int).length + (frameL b).1.length < 140737488355328 := by simp only [List.length_nil]; omega
  have q2 : (0 : Int) ≤ i := by omega
  have q3 : i < ((frameL b).1.length : Int) := by omega
  simp only [pumicelaw01_BitsBack.j0, Bool.false_eq_true, if_false, eq_false h2, eq_false h3, eq_false h4, Option.bind_some, eq_true q1, if_true, List.nil_append, eq_true q2, eq_true q3, e, Bool.not_false]
theorem BitsBack : pumicelaw01_BitsBack.Pure := by
  intro b more i v hm1 hn1 hw1 hm2 hn2 hw2 hi hv
  have hb := bytes_of hw1
  have hmb := bytes_of hw2
  obtain ⟨K1, h1⟩ := bFrame_ev b hb (by omega)
  obtain ⟨K7, h7⟩ := alive_ev
  by_cases hbad : b.length = 0 ∨ 1024 < b.length
  · refine ⟨K1 + K7, ?_⟩
    have e1 := h1 (K1 + K7) (by omega)
    have e7 := h7 (K1 + K7) (by omega)
    have ef : frameL b = ([], 22) := by unfold frameL; rw [if_pos hbad]
    simp only [ef] at e1 e7
    unfold pumicelaw01_BitsBack.f
    simp only [e1, e7, Option.bind_some]
    by_cases h0 : b.length = 0
    · simp [h0]
    · simp [h0]; omega
  · have h0 : b.length ≠ 0 := by omega
    have h2 : b.length ≤ 1024 := by omega
    have ef2 : (frameL b).2 = 0 := by rw [frame_parts h0 h2]
    have hfl : (frameL b).1.length = 6 + b.length := by rw [frame_parts h0 h2]; simp only [List.length_append, putL_length]
    have hf : Bytes (frameL b).1 := by rw [frame_parts h0 h2]; exact ((Bytes.putL _ _).append (Bytes.putL _ _)).append hb
    obtain ⟨K2, hu⟩ := bUnframe_ev ((frameL b).1 ++ more) (hf.append hmb) (by rw [List.length_append]; omega)
    obtain ⟨K3, hj⟩ := back_j0 hb h0 h2 i v (byte_of hv)
    refine ⟨K1 + K2 + K3 + K7, ?_⟩
    have e1 := h1 (K1 + K2 + K3 + K7) (by omega)
    have e2 := hu (K1 + K2 + K3 + K7) (by omega)
    have e3 := hj (K1 + K2 + K3 + K7) (by omega)
    have e7 := h7 (K1 + K2 + K3 + K7) (by omega)
    simp only [] at e1 e2 e3 e7
    rw [unframe_frame more h0 h2] at e2
    have q1 : ([] : List Int).length + (frameL b).1.length < 140737488355328 := by simp only [List.length_nil]; omega
    have q2 : (frameL b).1.length + more.length < 140737488355328 := by omega
    have q3 : 6 + (b.length : Int) = ((frameL b).1.length : Int) := by omega
    have ew : wrap64 ((b.length : Int) + 6) = ((frameL b).1.length : Int) := by rw [wrap64_of (by omega) (by omega)]; omega
    unfold pumicelaw01_BitsBack.f
    simp only [e1, ef2, Option.bind_some, if_true, eq_true q1, List.nil_append, eq_true q2, e2, q3, same_refl, ew, e7, Bool.not_true, e3]
end Go.Proofs.Ytgfloeaoamnbcaa.Pure
